/- The machine side: for each Go function a Lean function and the contract that the Go code answers as it does; printed by program (wip/tmpl/pprint.sh). -/
import Derived.Test.YtjggdakbphjomaaZFnExactSplitAccountx0
import Derived.Test.YtjggdakbphjomaaZFnExactSplitAccountx6
namespace Go.Proofs.Ytjggdakbphjomaa.ZFnExactSplitAccount
open Go.RowKit Go.Proofs.YtjggdakbphjomaaW.PrintWords Go.Proofs.YtjggdakbphjomaaW.PrintLast Go.Proofs.YtjggdakbphjomaaW.PrintMore
attribute [local go_sem] max2_int min2_int max_two min_two max_three min_three max_four min_four   -- for this text's walks alone
set_option linter.unusedVariables false
set_option linter.unusedSimpArgs false

/-! ### impl_IsValidAccount: function 105 -/
mutual
def impl_IsValidAccount.j0 : Nat → Bool → Int → Int → List (S123) → Option (Bool)
 | 0, _, _, _, _ => none
 | k + 1, x22, x241000, x241001, x241002 => if x22 = true then (some false) else (impl_IsValidAccount.l0 k x241002 (x241002.length : Int) 0 x241000 x241001 x241002)
def impl_IsValidAccount.l0 : Nat → List (S123) → Int → Int → Int → Int → List (S123) → Option (Bool)
 | 0, _, _, _, _, _, _ => none
 | k + 1, x24, x25, x26, x241000, x241001, x241002 => if x26 < x25 then (if 0 ≤ x26 then (if x26 < (x24.length : Int) then ((impl_InRange.f ((rd_T123 x24 x26).f0) 0 1000000).bind fun t245 => (if t245 = true then (if x26 > 0 then (if 0 ≤ (wrap64 (x26 - 1)) then (if (wrap64 (x26 - 1)) < (x241002.length : Int) then (if ((rd_T123 x241002 (wrap64 (x26 - 1))).f0) ≥ ((rd_T123 x24 x26).f0) then (impl_IsValidAccount.j2 k x26 x24 x25 x26 true x241000 x241001 x241002 ((rd_T123 x24 x26).f0) ((rd_T123 x24 x26).f1) ((rd_T123 x24 x26).f2) ((rd_T123 x24 x26).f3)) else ((impl_PrivateKey.f k ((rd_T123 x24 x26).f1)).bind fun t247 => (if t247 = 0 then (impl_IsValidAccount.j2 k x26 x24 x25 x26 true x241000 x241001 x241002 ((rd_T123 x24 x26).f0) ((rd_T123 x24 x26).f1) ((rd_T123 x24 x26).f2) ((rd_T123 x24 x26).f3)) else ((impl_InRange.f ((rd_T123 x24 x26).f2) 0 1000000).bind fun t248 => (impl_IsValidAccount.j2 k x26 x24 x25 x26 (!t248) x241000 x241001 x241002 ((rd_T123 x24 x26).f0) ((rd_T123 x24 x26).f1) ((rd_T123 x24 x26).f2) ((rd_T123 x24 x26).f3)))))) else (none)) else (none)) else ((impl_PrivateKey.f k ((rd_T123 x24 x26).f1)).bind fun t249 => (if t249 = 0 then (impl_IsValidAccount.j2 k x26 x24 x25 x26 true x241000 x241001 x241002 ((rd_T123 x24 x26).f0) ((rd_T123 x24 x26).f1) ((rd_T123 x24 x26).f2) ((rd_T123 x24 x26).f3)) else ((impl_InRange.f ((rd_T123 x24 x26).f2) 0 1000000).bind fun t250 => (impl_IsValidAccount.j2 k x26 x24 x25 x26 (!t250) x241000 x241001 x241002 ((rd_T123 x24 x26).f0) ((rd_T123 x24 x26).f1) ((rd_T123 x24 x26).f2) ((rd_T123 x24 x26).f3)))))) else (impl_IsValidAccount.j2 k x26 x24 x25 x26 true x241000 x241001 x241002 ((rd_T123 x24 x26).f0) ((rd_T123 x24 x26).f1) ((rd_T123 x24 x26).f2) ((rd_T123 x24 x26).f3)))) else (none)) else (none)) else (some true)
def impl_IsValidAccount.j2 : Nat → Int → List (S123) → Int → Int → Bool → Int → Int → List (S123) → Int → Int → Int → Bool → Option (Bool)
 | 0, _, _, _, _, _, _, _, _, _, _, _, _ => none
 | k + 1, x3, x24, x25, x26, x62, x241000, x241001, x241002, x245000, x245001, x245002, x245003 => if x62 = true then (some false) else (if 0 ≤ x3 then (if x3 ≤ (x241002.length : Int) then ((some (x241002.take (x3 : Int).toNat : List (S123))).bind fun y251 => (impl_IsValidAccount.l1 k x24 x25 x26 y251 (y251.length : Int) 0 x241000 x241001 x241002 x245000 x245001 x245002 x245003)) else (none)) else (none))
def impl_IsValidAccount.l1 : Nat → List (S123) → Int → Int → List (S123) → Int → Int → Int → Int → List (S123) → Int → Int → Int → Bool → Option (Bool)
 | 0, _, _, _, _, _, _, _, _, _, _, _, _, _ => none
 | k + 1, x24, x25, x26, x66, x67, x68, x241000, x241001, x241002, x245000, x245001, x245002, x245003 => if x68 < x67 then (if 0 ≤ x68 then (if x68 < (x66.length : Int) then (if ((rd_T123 x66 x68).f1) = x245001 then (some false) else (impl_IsValidAccount.l1 k x24 x25 x26 x66 x67 (wrap64 (x68 + 1)) x241000 x241001 x241002 x245000 x245001 x245002 x245003)) else (none)) else (none)) else (impl_IsValidAccount.l0 k x24 x25 (wrap64 (x26 + 1)) x241000 x241001 x241002)
end
def impl_IsValidAccount.f (k : Nat) (a0_0 : Int) (a0_1 : Int) (l0_2 : List (S123)) : Option (Bool) := (impl_InRange.f a0_0 0 1000000).bind fun t241 => (if t241 = true then ((impl_InRange.f a0_1 1 3).bind fun t242 => (if t242 = true then (impl_IsValidAccount.j0 k (decide ((l0_2.length : Int) > 8)) a0_0 a0_1 l0_2) else (impl_IsValidAccount.j0 k true a0_0 a0_1 l0_2))) else (impl_IsValidAccount.j0 k true a0_0 a0_1 l0_2))
theorem impl_IsValidAccount.mono_l : ∀ k, (∀ y0 y1 y2 y3, LeO (impl_IsValidAccount.j0 k y0 y1 y2 y3) (impl_IsValidAccount.j0 (k + 1) y0 y1 y2 y3)) ∧ (∀ y0 y1 y2 y3 y4 y5, LeO (impl_IsValidAccount.l0 k y0 y1 y2 y3 y4 y5) (impl_IsValidAccount.l0 (k + 1) y0 y1 y2 y3 y4 y5)) ∧ (∀ y0 y1 y2 y3 y4 y5 y6 y7 y8 y9 y10 y11, LeO (impl_IsValidAccount.j2 k y0 y1 y2 y3 y4 y5 y6 y7 y8 y9 y10 y11) (impl_IsValidAccount.j2 (k + 1) y0 y1 y2 y3 y4 y5 y6 y7 y8 y9 y10 y11)) ∧ (∀ y0 y1 y2 y3 y4 y5 y6 y7 y8 y9 y10 y11 y12, LeO (impl_IsValidAccount.l1 k y0 y1 y2 y3 y4 y5 y6 y7 y8 y9 y10 y11 y12) (impl_IsValidAccount.l1 (k + 1) y0 y1 y2 y3 y4 y5 y6 y7 y8 y9 y10 y11 y12))
 | 0 => ⟨fun _ _ _ _ r h => by simp [impl_IsValidAccount.j0] at h, fun _ _ _ _ _ _ r h => by simp [impl_IsValidAccount.l0] at h, fun _ _ _ _ _ _ _ _ _ _ _ _ r h => by simp [impl_IsValidAccount.j2] at h, fun _ _ _ _ _ _ _ _ _ _ _ _ _ r h => by simp [impl_IsValidAccount.l1] at h⟩
 | k + 1 => by
  obtain ⟨ih0, ih1, ih2, ih3⟩ := impl_IsValidAccount.mono_l k
  refine ⟨?_, ?_, ?_, ?_⟩
  ·intro y0 y1 y2 y3
   unfold impl_IsValidAccount.j0
   repeat' first
   | (with_reducible exact ih0 _ _ _ _)
   | (with_reducible exact ih1 _ _ _ _ _ _)
   | (with_reducible exact ih2 _ _ _ _ _ _ _ _ _ _ _ _)
   | (with_reducible exact ih3 _ _ _ _ _ _ _ _ _ _ _ _ _)
   | (with_reducible exact impl_PrivateKey.mono _ _)
   | (with_reducible exact LeO.refl _)
   | (with_reducible exact LeO.none _)
   | (with_reducible refine LeO.ite ?_ ?_)
   | (with_reducible refine LeO.bind ?_ (fun _ => ?_))
   | exact ih0 _ _ _ _
   | exact ih1 _ _ _ _ _ _
   | exact ih2 _ _ _ _ _ _ _ _ _ _ _ _
   | exact ih3 _ _ _ _ _ _ _ _ _ _ _ _ _
   | exact impl_PrivateKey.mono _ _
   | exact LeO.none _
   | refine LeO.ite ?_ ?_
   | refine LeO.bind ?_ (fun _ => ?_)
  ·intro y0 y1 y2 y3 y4 y5
   unfold impl_IsValidAccount.l0
   repeat' first
   | (with_reducible exact ih0 _ _ _ _)
   | (with_reducible exact ih1 _ _ _ _ _ _)
   | (with_reducible exact ih2 _ _ _ _ _ _ _ _ _ _ _ _)
   | (with_reducible exact ih3 _ _ _ _ _ _ _ _ _ _ _ _ _)
   | (with_reducible exact impl_PrivateKey.mono _ _)
   | (with_reducible exact LeO.refl _)
   | (with_reducible exact LeO.none _)
   | (with_reducible refine LeO.ite ?_ ?_)
   | (with_reducible refine LeO.bind ?_ (fun _ => ?_))
   | exact ih0 _ _ _ _
   | exact ih1 _ _ _ _ _ _
   | exact ih2 _ _ _ _ _ _ _ _ _ _ _ _
   | exact ih3 _ _ _ _ _ _ _ _ _ _ _ _ _
   | exact impl_PrivateKey.mono _ _
   | exact LeO.none _
   | refine LeO.ite ?_ ?_
   | refine LeO.bind ?_ (fun _ => ?_)
  ·intro y0 y1 y2 y3 y4 y5 y6 y7 y8 y9 y10 y11
   unfold impl_IsValidAccount.j2
   repeat' first
   | (with_reducible exact ih0 _ _ _ _)
   | (with_reducible exact ih1 _ _ _ _ _ _)
   | (with_reducible exact ih2 _ _ _ _ _ _ _ _ _ _ _ _)
   | (with_reducible exact ih3 _ _ _ _ _ _ _ _ _ _ _ _ _)
   | (with_reducible exact impl_PrivateKey.mono _ _)
   | (with_reducible exact LeO.refl _)
   | (with_reducible exact LeO.none _)
   | (with_reducible refine LeO.ite ?_ ?_)
   | (with_reducible refine LeO.bind ?_ (fun _ => ?_))
   | exact ih0 _ _ _ _
   | exact ih1 _ _ _ _ _ _
   | exact ih2 _ _ _ _ _ _ _ _ _ _ _ _
   | exact ih3 _ _ _ _ _ _ _ _ _ _ _ _ _
   | exact impl_PrivateKey.mono _ _
   | exact LeO.none _
   | refine LeO.ite ?_ ?_
   | refine LeO.bind ?_ (fun _ => ?_)
  ·intro y0 y1 y2 y3 y4 y5 y6 y7 y8 y9 y10 y11 y12
   unfold impl_IsValidAccount.l1
   repeat' first
   | (with_reducible exact ih0 _ _ _ _)
   | (with_reducible exact ih1 _ _ _ _ _ _)
   | (with_reducible exact ih2 _ _ _ _ _ _ _ _ _ _ _ _)
   | (with_reducible exact ih3 _ _ _ _ _ _ _ _ _ _ _ _ _)
   | (with_reducible exact impl_PrivateKey.mono _ _)
   | (with_reducible exact LeO.refl _)
   | (with_reducible exact LeO.none _)
   | (with_reducible refine LeO.ite ?_ ?_)
   | (with_reducible refine LeO.bind ?_ (fun _ => ?_))
   | exact ih0 _ _ _ _
   | exact ih1 _ _ _ _ _ _
   | exact ih2 _ _ _ _ _ _ _ _ _ _ _ _
   | exact ih3 _ _ _ _ _ _ _ _ _ _ _ _ _
   | exact impl_PrivateKey.mono _ _
   | exact LeO.none _
   | refine LeO.ite ?_ ?_
   | refine LeO.bind ?_ (fun _ => ?_)
theorem impl_IsValidAccount.mono : ∀ a0 a1 a2 k, LeO (impl_IsValidAccount.f k a0 a1 a2) (impl_IsValidAccount.f (k + 1) a0 a1 a2) := by
 intro a0 a1 a2 k
 obtain ⟨ih0, ih1, ih2, ih3⟩ := impl_IsValidAccount.mono_l k
 unfold impl_IsValidAccount.f
 repeat' first
   | (with_reducible exact ih0 _ _ _ _)
   | (with_reducible exact ih1 _ _ _ _ _ _)
   | (with_reducible exact ih2 _ _ _ _ _ _ _ _ _ _ _ _)
   | (with_reducible exact ih3 _ _ _ _ _ _ _ _ _ _ _ _ _)
   | (with_reducible exact impl_PrivateKey.mono _ _)
   | (with_reducible exact LeO.refl _)
   | (with_reducible exact LeO.none _)
   | (with_reducible refine LeO.ite ?_ ?_)
   | (with_reducible refine LeO.bind ?_ (fun _ => ?_))
   | exact ih0 _ _ _ _
   | exact ih1 _ _ _ _ _ _
   | exact ih2 _ _ _ _ _ _ _ _ _ _ _ _
   | exact ih3 _ _ _ _ _ _ _ _ _ _ _ _ _
   | exact impl_PrivateKey.mono _ _
   | exact LeO.none _
   | refine LeO.ite ?_ ?_
   | refine LeO.bind ?_ (fun _ => ?_)
set_option maxHeartbeats 8000000 in
set_option maxRecDepth 100000 in
theorem impl_IsValidAccount.calls (k : Nat) (a0_0 : Int) (a0_1 : Int) (A0_2 : Option Addr) (c0_2 : Nat) (l0_2 : List (S123)) (r : Bool) (w : World) (hr0_2 : Kd.C k123 w A0_2 l0_2.length l0_2) (hc0_2 : l0_2.length ≤ c0_2) (h : impl_IsValidAccount.f k a0_0 a0_1 l0_2 = some r) :
  Calls Try.prog 105 #[.agg #[.int .i64 a0_0, .int .i64 a0_1, .slice A0_2 l0_2.length c0_2]] w fun e w' => e = .returned (.bool r) ∧ Below w.heap.size w w' := by
 have hu76 := Try.underlying76
 have hu123 := Try.underlying123
 have HR0_2 := Aside0.mk hr0_2
 have HC0_2 := Aside0.mk hc0_2
 clear hr0_2 hc0_2
 have HB := Aside0.mk (Below.refl w.heap.size w)
 have H : ((impl_InRange.f a0_0 0 1000000).bind fun t241 => (if t241 = true then ((impl_InRange.f a0_1 1 3).bind fun t242 => (if t242 = true then (impl_IsValidAccount.j0 k (decide ((l0_2.length : Int) > 8)) a0_0 a0_1 l0_2) else (impl_IsValidAccount.j0 k true a0_0 a0_1 l0_2))) else (impl_IsValidAccount.j0 k true a0_0 a0_1 l0_2))) = some r := h
 clear h
 have HC2 := Aside0.mk H
 clear H
 go_enter Try.func105, Try.ntmps105
 go_upto_region 1 with (first | ((with_reducible refine gate_dst (N := 1) rfl ?_); (try (refine gate_guard (by rfl) ?_; dsimp only)); refine box_event ?hg (N := 1) ?hd (cs := #[.int .i64 a0_0, .int .i64 a0_1, .slice A0_2 l0_2.length c0_2]) (t := 76) ?hr ?_; (case hd => rfl); (case hg => rfl); (case hr => exact tG); intro gb240 hg w3 hbox hb; have n0_ := Aside0.mk (below_step tB hb); have n1_ := Aside0.mk (hbox); have n2_ := Aside0.mk ((by rw [hg]; exact (below_size tB) : w.heap.size ≤ gb240)); have n3_ := Aside0.mk ((by rw [hg]; exact (below_size tB) : w.heap.size ≤ gb240)); clear HB; have HB := n0_; have BK240 := n1_; have GW240 := n2_; have GE240 := n3_; clear n0_ n1_ n2_ n3_; clear hb hbox hg))
 repeat (go_quiet (first | ((with_reducible refine gate_dst (N := 1) rfl ?_); (try (refine gate_guard (by rfl) ?_; dsimp only)); refine box_event ?hg (N := 1) ?hd (cs := #[.int .i64 a0_0, .int .i64 a0_1, .slice A0_2 l0_2.length c0_2]) (t := 76) ?hr ?_; (case hd => rfl); (case hg => rfl); (case hr => exact tG); intro gb240 hg w3 hbox hb; have n0_ := Aside0.mk (below_step tB hb); have n1_ := Aside0.mk (hbox); have n2_ := Aside0.mk ((by rw [hg]; exact (below_size tB) : w.heap.size ≤ gb240)); have n3_ := Aside0.mk ((by rw [hg]; exact (below_size tB) : w.heap.size ≤ gb240)); clear HB; have HB := n0_; have BK240 := n1_; have GW240 := n2_; have GE240 := n3_; clear n0_ n1_ n2_ n3_; clear hb hbox hg)); go_upto_region 1 with (first | ((with_reducible refine gate_dst (N := 1) rfl ?_); (try (refine gate_guard (by rfl) ?_; dsimp only)); refine box_event ?hg (N := 1) ?hd (cs := #[.int .i64 a0_0, .int .i64 a0_1, .slice A0_2 l0_2.length c0_2]) (t := 76) ?hr ?_; (case hd => rfl); (case hg => rfl); (case hr => exact tG); intro gb240 hg w3 hbox hb; have n0_ := Aside0.mk (below_step tB hb); have n1_ := Aside0.mk (hbox); have n2_ := Aside0.mk ((by rw [hg]; exact (below_size tB) : w.heap.size ≤ gb240)); have n3_ := Aside0.mk ((by rw [hg]; exact (below_size tB) : w.heap.size ≤ gb240)); clear HB; have HB := n0_; have BK240 := n1_; have GW240 := n2_; have GE240 := n3_; clear n0_ n1_ n2_ n3_; clear hb hbox hg)))
 (try simp only [Act.put, List.setIfInBounds_toArray, List.set_cons_zero, List.set_cons_succ])
 go_cut [22] (fun v22 wc => ∃ (kq : Nat) (x22_1 : Bool), v22 = .bool x22_1 ∧ Aside0 (impl_IsValidAccount.j0 kq x22_1 a0_0 a0_1 l0_2 = some r) ∧ Aside0 (kq ≤ k) ∧ Aside0 (wc.heap[gb240]? = some (.cells #[.int .i64 a0_0, .int .i64 a0_1, (.slice A0_2 l0_2.length c0_2)] 76 (0, 0))) ∧ Aside0 (Below w.heap.size w wc))
 case first =>
  have H := HC2.out
  clear HC2
  replace H := Option.bind_eq_some_iff.mp H
  obtain ⟨t241, A40, H⟩ := H
  replace H : (if t241 = true then ((impl_InRange.f a0_1 1 3).bind fun t242 => (if t242 = true then (impl_IsValidAccount.j0 k (decide ((l0_2.length : Int) > 8)) a0_0 a0_1 l0_2) else (impl_IsValidAccount.j0 k true a0_0 a0_1 l0_2))) else (impl_IsValidAccount.j0 k true a0_0 a0_1 l0_2)) = some r := H
  have A4 := Aside0.mk A40
  clear A40
  by_cases c5 : t241 = true
  ·subst c5
   have H1 : ((impl_InRange.f a0_1 1 3).bind fun t242 => (if t242 = true then (impl_IsValidAccount.j0 k (decide ((l0_2.length : Int) > 8)) a0_0 a0_1 l0_2) else (impl_IsValidAccount.j0 k true a0_0 a0_1 l0_2))) = some r := by rw [if_pos rfl] at H; exact H
   clear H
   have H := H1
   clear H1
   replace H := Option.bind_eq_some_iff.mp H
   obtain ⟨t242, A60, H⟩ := H
   replace H : (if t242 = true then (impl_IsValidAccount.j0 k (decide ((l0_2.length : Int) > 8)) a0_0 a0_1 l0_2) else (impl_IsValidAccount.j0 k true a0_0 a0_1 l0_2)) = some r := H
   have A6 := Aside0.mk A60
   clear A60
   by_cases c7 : t242 = true
   ·subst c7
    have H1 : (impl_IsValidAccount.j0 k (decide ((l0_2.length : Int) > 8)) a0_0 a0_1 l0_2) = some r := by rw [if_pos rfl] at H; exact H
    clear H
    have H := H1
    clear H1
    have H' := Aside0.mk H
    clear H
    obtain ⟨hcz8_0, hcz8_1, hcz8_2, hfz8_0, hfz8_1, hfz8_2⟩ := bc3 BK240.out
    go_wp2_with (first | (go_at_call 82; (with_reducible refine (impl_InRange.calls a0_0 0 1000000 true _ A4.out).mono ?_); rintro e w' ⟨rfl, ⟨nd, rfl⟩⟩; (try exact tQ)) | (go_at_call 82; (with_reducible refine (impl_InRange.calls a0_1 1 3 true _ A6.out).mono ?_); rintro e w' ⟨rfl, ⟨nd, rfl⟩⟩; (try exact tQ)))
    repeat (go_quiet (first | (go_at_call 82; (with_reducible refine (impl_InRange.calls a0_0 0 1000000 true _ A4.out).mono ?_); rintro e w' ⟨rfl, ⟨nd, rfl⟩⟩; (try exact tQ)) | (go_at_call 82; (with_reducible refine (impl_InRange.calls a0_1 1 3 true _ A6.out).mono ?_); rintro e w' ⟨rfl, ⟨nd, rfl⟩⟩; (try exact tQ))); try go_wp2_with (first | (go_at_call 82; (with_reducible refine (impl_InRange.calls a0_0 0 1000000 true _ A4.out).mono ?_); rintro e w' ⟨rfl, ⟨nd, rfl⟩⟩; (try exact tQ)) | (go_at_call 82; (with_reducible refine (impl_InRange.calls a0_1 1 3 true _ A6.out).mono ?_); rintro e w' ⟨rfl, ⟨nd, rfl⟩⟩; (try exact tQ))))
    go_meet
    case rel => exact ⟨_, (decide ((l0_2.length : Int) > 8)), tS, H', ⟨by first | omega | exact Nat.le_refl _⟩, ⟨tK BK240⟩, ⟨tB⟩⟩
   ·replace c7 := Bool.eq_false_iff.mpr c7
    subst c7
    have H1 : (impl_IsValidAccount.j0 k true a0_0 a0_1 l0_2) = some r := by rw [if_neg (show ¬ (false = true) by decide)] at H; exact H
    clear H
    have H := H1
    clear H1
    have H' := Aside0.mk H
    clear H
    obtain ⟨hcz9_0, hcz9_1, hcz9_2, hfz9_0, hfz9_1, hfz9_2⟩ := bc3 BK240.out
    go_wp2_with (first | (go_at_call 82; (with_reducible refine (impl_InRange.calls a0_0 0 1000000 true _ A4.out).mono ?_); rintro e w' ⟨rfl, ⟨nd, rfl⟩⟩; (try exact tQ)) | (go_at_call 82; (with_reducible refine (impl_InRange.calls a0_1 1 3 false _ A6.out).mono ?_); rintro e w' ⟨rfl, ⟨nd, rfl⟩⟩; (try exact tQ)))
    repeat (go_quiet (first | (go_at_call 82; (with_reducible refine (impl_InRange.calls a0_0 0 1000000 true _ A4.out).mono ?_); rintro e w' ⟨rfl, ⟨nd, rfl⟩⟩; (try exact tQ)) | (go_at_call 82; (with_reducible refine (impl_InRange.calls a0_1 1 3 false _ A6.out).mono ?_); rintro e w' ⟨rfl, ⟨nd, rfl⟩⟩; (try exact tQ))); try go_wp2_with (first | (go_at_call 82; (with_reducible refine (impl_InRange.calls a0_0 0 1000000 true _ A4.out).mono ?_); rintro e w' ⟨rfl, ⟨nd, rfl⟩⟩; (try exact tQ)) | (go_at_call 82; (with_reducible refine (impl_InRange.calls a0_1 1 3 false _ A6.out).mono ?_); rintro e w' ⟨rfl, ⟨nd, rfl⟩⟩; (try exact tQ))))
    go_meet
    case rel => exact ⟨_, (true), tS, H', ⟨by first | omega | exact Nat.le_refl _⟩, ⟨tK BK240⟩, ⟨tB⟩⟩
  ·replace c5 := Bool.eq_false_iff.mpr c5
   subst c5
   have H1 : (impl_IsValidAccount.j0 k true a0_0 a0_1 l0_2) = some r := by rw [if_neg (show ¬ (false = true) by decide)] at H; exact H
   clear H
   have H := H1
   clear H1
   have H' := Aside0.mk H
   clear H
   obtain ⟨hcz10_0, hcz10_1, hcz10_2, hfz10_0, hfz10_1, hfz10_2⟩ := bc3 BK240.out
   go_wp2_with (first | (go_at_call 82; (with_reducible refine (impl_InRange.calls a0_0 0 1000000 false _ A4.out).mono ?_); rintro e w' ⟨rfl, ⟨nd, rfl⟩⟩; (try exact tQ)))
   repeat (go_quiet (first | (go_at_call 82; (with_reducible refine (impl_InRange.calls a0_0 0 1000000 false _ A4.out).mono ?_); rintro e w' ⟨rfl, ⟨nd, rfl⟩⟩; (try exact tQ))); try go_wp2_with (first | (go_at_call 82; (with_reducible refine (impl_InRange.calls a0_0 0 1000000 false _ A4.out).mono ?_); rintro e w' ⟨rfl, ⟨nd, rfl⟩⟩; (try exact tQ))))
   go_meet
   case rel => exact ⟨_, (true), tS, H', ⟨by first | omega | exact Nat.le_refl _⟩, ⟨tK BK240⟩, ⟨tB⟩⟩
 case rest =>
  clear HC2
  try clear c1
  try clear p2
  try clear c5
  try clear c7
  try clear c10
  try clear hcz10_0
  try clear hcz10_1
  try clear hcz10_2
  try clear hcz8_0
  try clear hcz8_1
  try clear hcz8_2
  try clear hcz9_0
  try clear hcz9_1
  try clear hcz9_2
  try clear hfz10_0
  try clear hfz10_1
  try clear hfz10_2
  try clear hfz8_0
  try clear hfz8_1
  try clear hfz8_2
  try clear hfz9_0
  try clear hfz9_1
  try clear hfz9_2
  obtain ⟨kq, x22_1, rfl, HA, HJ1, BK240, HB⟩ := hcut
  cases kq with
  | zero => exact absurd HA.out (by simp [impl_IsValidAccount.j0])
  | succ kj1 =>
   have H := HA.out
   clear HA
   simp only [impl_IsValidAccount.j0] at H
   by_cases c11 : x22_1 = true
   ·subst c11
    have H1 : (some false) = some r := by rw [if_pos rfl] at H; exact H
    clear H
    have H := H1
    clear H1
    obtain rfl := Option.some.inj H
    go_wp2
    repeat (go_quiet (fail); try go_wp2)
    go_ret
    exact ⟨tE, tB⟩
   ·replace c11 := Bool.eq_false_iff.mpr c11
    subst c11
    have H1 : (impl_IsValidAccount.l0 kj1 l0_2 (l0_2.length : Int) 0 a0_0 a0_1 l0_2) = some r := by rw [if_neg (show ¬ (false = true) by decide)] at H; exact H
    clear H
    have H := H1
    clear H1
    have H' := Aside0.mk H
    clear H
    obtain ⟨hcz12_0, hcz12_1, hcz12_2, hfz12_0, hfz12_1, hfz12_2⟩ := bc3 BK240.out
    go_wp2
    repeat (go_quiet (fail); try go_wp2)
    go_loopg [26] kj1 (fun kq v26 w' => ∃ (x26_2 : Int), v26 = .int .i64 x26_2 ∧ Aside0 (impl_IsValidAccount.l0 kq l0_2 (l0_2.length : Int) x26_2 a0_0 a0_1 l0_2 = some r) ∧ Aside0 (kq ≤ kj1) ∧ Aside0 (w'.heap[gb240]? = some (.cells #[.int .i64 a0_0, .int .i64 a0_1, (.slice A0_2 l0_2.length c0_2)] 76 (0, 0))) ∧ Aside0 (Below w.heap.size w w'))
    case atStart => exact ⟨(0), tS, H', ⟨Nat.le_refl _⟩, ⟨tK BK240⟩, ⟨tB⟩⟩
    case round =>
     clear H'
     try clear c1
     try clear p2
     try clear c5
     try clear c7
     try clear c10
     try clear c11
     try clear hcz10_0
     try clear hcz10_1
     try clear hcz10_2
     try clear hcz12_0
     try clear hcz12_1
     try clear hcz12_2
     try clear hcz8_0
     try clear hcz8_1
     try clear hcz8_2
     try clear hcz9_0
     try clear hcz9_1
     try clear hcz9_2
     try clear hfz10_0
     try clear hfz10_1
     try clear hfz10_2
     try clear hfz12_0
     try clear hfz12_1
     try clear hfz12_2
     try clear hfz8_0
     try clear hfz8_1
     try clear hfz8_2
     try clear hfz9_0
     try clear hfz9_1
     try clear hfz9_2
     try clear p2
     obtain ⟨x26_2, rfl, HA, HK2, BK240, HB⟩ := hrel
     cases gk with
     | zero => exact absurd HA.out (by simp [impl_IsValidAccount.l0])
     | succ k2 =>
      have H := HA.out
      clear HA
      simp only [impl_IsValidAccount.l0] at H
      by_cases c13 : x26_2 < (l0_2.length : Int)
      ·rw [if_pos c13] at H
       have c13b0 : decide (x26_2 < (l0_2.length : Int)) = true := decide_eq_true c13
       clear c13
       by_cases c14 : 0 ≤ x26_2
       ·rw [if_pos c14] at H
        have c14b0 : decide (0 ≤ x26_2) = true := decide_eq_true c14
        clear c14
        by_cases c15 : x26_2 < (l0_2.length : Int)
        ·rw [if_pos c15] at H
         have c15b0 : decide (x26_2 < (l0_2.length : Int)) = true := decide_eq_true c15
         clear c15
         have HC16 := Aside0.mk H
         clear H
         have p243 : 0 ≤ (x26_2 : Int) := of_decide_eq_true tA
         have q243 : x26_2 < (l0_2.length : Int) := of_decide_eq_true tA
         obtain ⟨ad243, e243, hx243_0, hx243_1, hx243_2, hx243_3⟩ := at_T123 HR0_2.out x26_2 p243 q243
         cases e243
         replace hx243_0 := hbc HB hx243_0
         replace hx243_1 := hbc HB hx243_1
         replace hx243_2 := hbc HB hx243_2
         replace hx243_3 := hbc HB hx243_3
         replace p243 := eq_true p243
         replace q243 := eq_true q243
         go_upto_region 6 with (first | ((with_reducible refine gate_dst (N := 4) rfl ?_); (try (refine gate_guard (by rfl) ?_; dsimp only)); refine box_event ?hg (N := 4) ?hd (cs := #[.int .i64 0, .int .i64 0, .int .i64 0, .bool false]) (t := 123) ?hr ?_; (case hd => rfl); (case hg => rfl); (case hr => exact tG); intro gb244 hg w17 hbox hb; have n0_ := Aside0.mk (blk_below (g := gb240) (o := .cells #[.int .i64 a0_0, .int .i64 a0_1, .slice (some ad243) l0_2.length c0_2] 76 (0, 0)) (tK BK240) hb); have n1_ := Aside0.mk (below_step tB hb); have n2_ := Aside0.mk (hbox); have n3_ := Aside0.mk ((by rw [hg]; exact (below_size tB) : w.heap.size ≤ gb244)); have n4_ := Aside0.mk ((by rw [hg]; exact (below_size tB) : w.heap.size ≤ gb244)); have n5_ := Aside0.mk ((by rw [hg]; exact Nat.ne_of_lt (blk_lt (g := gb240) (o := .cells #[.int .i64 a0_0, .int .i64 a0_1, .slice (some ad243) l0_2.length c0_2] 76 (0, 0)) (tK BK240)) : gb240 ≠ gb244)); have n6_ := Aside0.mk ((by rw [hg]; exact Nat.ne_of_gt (blk_lt (g := gb240) (o := .cells #[.int .i64 a0_0, .int .i64 a0_1, .slice (some ad243) l0_2.length c0_2] 76 (0, 0)) (tK BK240)) : gb244 ≠ gb240)); clear BK240; clear HB; have BK240 := n0_; have HB := n1_; have BK244 := n2_; have GW244 := n3_; have GE244 := n4_; have NB240_244 := n5_; have NB244_240 := n6_; clear n0_ n1_ n2_ n3_ n4_ n5_ n6_; clear hb hbox hg; have hnb18 := NB244_240.out; have hnc18 := NB240_244.out; obtain ⟨hcz19_0, hcz19_1, hcz19_2, hcz19_3, hfz19_0, hfz19_1, hfz19_2, hfz19_3⟩ := bc4 BK244.out))
         repeat (go_quiet (first | ((with_reducible refine gate_dst (N := 4) rfl ?_); (try (refine gate_guard (by rfl) ?_; dsimp only)); refine box_event ?hg (N := 4) ?hd (cs := #[.int .i64 0, .int .i64 0, .int .i64 0, .bool false]) (t := 123) ?hr ?_; (case hd => rfl); (case hg => rfl); (case hr => exact tG); intro gb244 hg w17 hbox hb; have n0_ := Aside0.mk (blk_below (g := gb240) (o := .cells #[.int .i64 a0_0, .int .i64 a0_1, .slice (some ad243) l0_2.length c0_2] 76 (0, 0)) (tK BK240) hb); have n1_ := Aside0.mk (below_step tB hb); have n2_ := Aside0.mk (hbox); have n3_ := Aside0.mk ((by rw [hg]; exact (below_size tB) : w.heap.size ≤ gb244)); have n4_ := Aside0.mk ((by rw [hg]; exact (below_size tB) : w.heap.size ≤ gb244)); have n5_ := Aside0.mk ((by rw [hg]; exact Nat.ne_of_lt (blk_lt (g := gb240) (o := .cells #[.int .i64 a0_0, .int .i64 a0_1, .slice (some ad243) l0_2.length c0_2] 76 (0, 0)) (tK BK240)) : gb240 ≠ gb244)); have n6_ := Aside0.mk ((by rw [hg]; exact Nat.ne_of_gt (blk_lt (g := gb240) (o := .cells #[.int .i64 a0_0, .int .i64 a0_1, .slice (some ad243) l0_2.length c0_2] 76 (0, 0)) (tK BK240)) : gb244 ≠ gb240)); clear BK240; clear HB; have BK240 := n0_; have HB := n1_; have BK244 := n2_; have GW244 := n3_; have GE244 := n4_; have NB240_244 := n5_; have NB244_240 := n6_; clear n0_ n1_ n2_ n3_ n4_ n5_ n6_; clear hb hbox hg; have hnb18 := NB244_240.out; have hnc18 := NB240_244.out; obtain ⟨hcz19_0, hcz19_1, hcz19_2, hcz19_3, hfz19_0, hfz19_1, hfz19_2, hfz19_3⟩ := bc4 BK244.out)); go_upto_region 6 with (first | ((with_reducible refine gate_dst (N := 4) rfl ?_); (try (refine gate_guard (by rfl) ?_; dsimp only)); refine box_event ?hg (N := 4) ?hd (cs := #[.int .i64 0, .int .i64 0, .int .i64 0, .bool false]) (t := 123) ?hr ?_; (case hd => rfl); (case hg => rfl); (case hr => exact tG); intro gb244 hg w17 hbox hb; have n0_ := Aside0.mk (blk_below (g := gb240) (o := .cells #[.int .i64 a0_0, .int .i64 a0_1, .slice (some ad243) l0_2.length c0_2] 76 (0, 0)) (tK BK240) hb); have n1_ := Aside0.mk (below_step tB hb); have n2_ := Aside0.mk (hbox); have n3_ := Aside0.mk ((by rw [hg]; exact (below_size tB) : w.heap.size ≤ gb244)); have n4_ := Aside0.mk ((by rw [hg]; exact (below_size tB) : w.heap.size ≤ gb244)); have n5_ := Aside0.mk ((by rw [hg]; exact Nat.ne_of_lt (blk_lt (g := gb240) (o := .cells #[.int .i64 a0_0, .int .i64 a0_1, .slice (some ad243) l0_2.length c0_2] 76 (0, 0)) (tK BK240)) : gb240 ≠ gb244)); have n6_ := Aside0.mk ((by rw [hg]; exact Nat.ne_of_gt (blk_lt (g := gb240) (o := .cells #[.int .i64 a0_0, .int .i64 a0_1, .slice (some ad243) l0_2.length c0_2] 76 (0, 0)) (tK BK240)) : gb244 ≠ gb240)); clear BK240; clear HB; have BK240 := n0_; have HB := n1_; have BK244 := n2_; have GW244 := n3_; have GE244 := n4_; have NB240_244 := n5_; have NB244_240 := n6_; clear n0_ n1_ n2_ n3_ n4_ n5_ n6_; clear hb hbox hg; have hnb18 := NB244_240.out; have hnc18 := NB240_244.out; obtain ⟨hcz19_0, hcz19_1, hcz19_2, hcz19_3, hfz19_0, hfz19_1, hfz19_2, hfz19_3⟩ := bc4 BK244.out)))
         (try simp only [Act.put, List.setIfInBounds_toArray, List.set_cons_zero, List.set_cons_succ])
         go_cut [62] (fun v62 wc => ∃ (kq : Nat) (x62_15 : Bool), v62 = .bool x62_15 ∧ Aside0 (impl_IsValidAccount.j2 kq x26_2 l0_2 (l0_2.length : Int) x26_2 x62_15 a0_0 a0_1 l0_2 ((rd_T123 l0_2 x26_2).f0) ((rd_T123 l0_2 x26_2).f1) ((rd_T123 l0_2 x26_2).f2) ((rd_T123 l0_2 x26_2).f3) = some r) ∧ Aside0 (kq ≤ k2) ∧ Aside0 (wc.heap[gb240]? = some (.cells #[.int .i64 a0_0, .int .i64 a0_1, (.slice (some ad243) l0_2.length c0_2)] 76 (0, 0))) ∧ Aside0 (wc.heap[gb244]? = some (.cells #[.int .i64 ((rd_T123 l0_2 x26_2).f0), .int .i64 ((rd_T123 l0_2 x26_2).f1), .int .i64 ((rd_T123 l0_2 x26_2).f2), .bool ((rd_T123 l0_2 x26_2).f3)] 123 (0, 0))) ∧ Aside0 (Below w.heap.size w wc))
         case first =>
          have H := HC16.out
          clear HC16
          replace H := Option.bind_eq_some_iff.mp H
          obtain ⟨t245, A200, H⟩ := H
          replace H : (if t245 = true then (if x26_2 > 0 then (if 0 ≤ (wrap64 (x26_2 - 1)) then (if (wrap64 (x26_2 - 1)) < (l0_2.length : Int) then (if ((rd_T123 l0_2 (wrap64 (x26_2 - 1))).f0) ≥ ((rd_T123 l0_2 x26_2).f0) then (impl_IsValidAccount.j2 k2 x26_2 l0_2 (l0_2.length : Int) x26_2 true a0_0 a0_1 l0_2 ((rd_T123 l0_2 x26_2).f0) ((rd_T123 l0_2 x26_2).f1) ((rd_T123 l0_2 x26_2).f2) ((rd_T123 l0_2 x26_2).f3)) else ((impl_PrivateKey.f k2 ((rd_T123 l0_2 x26_2).f1)).bind fun t247 => (if t247 = 0 then (impl_IsValidAccount.j2 k2 x26_2 l0_2 (l0_2.length : Int) x26_2 true a0_0 a0_1 l0_2 ((rd_T123 l0_2 x26_2).f0) ((rd_T123 l0_2 x26_2).f1) ((rd_T123 l0_2 x26_2).f2) ((rd_T123 l0_2 x26_2).f3)) else ((impl_InRange.f ((rd_T123 l0_2 x26_2).f2) 0 1000000).bind fun t248 => (impl_IsValidAccount.j2 k2 x26_2 l0_2 (l0_2.length : Int) x26_2 (!t248) a0_0 a0_1 l0_2 ((rd_T123 l0_2 x26_2).f0) ((rd_T123 l0_2 x26_2).f1) ((rd_T123 l0_2 x26_2).f2) ((rd_T123 l0_2 x26_2).f3)))))) else (none)) else (none)) else ((impl_PrivateKey.f k2 ((rd_T123 l0_2 x26_2).f1)).bind fun t249 => (if t249 = 0 then (impl_IsValidAccount.j2 k2 x26_2 l0_2 (l0_2.length : Int) x26_2 true a0_0 a0_1 l0_2 ((rd_T123 l0_2 x26_2).f0) ((rd_T123 l0_2 x26_2).f1) ((rd_T123 l0_2 x26_2).f2) ((rd_T123 l0_2 x26_2).f3)) else ((impl_InRange.f ((rd_T123 l0_2 x26_2).f2) 0 1000000).bind fun t250 => (impl_IsValidAccount.j2 k2 x26_2 l0_2 (l0_2.length : Int) x26_2 (!t250) a0_0 a0_1 l0_2 ((rd_T123 l0_2 x26_2).f0) ((rd_T123 l0_2 x26_2).f1) ((rd_T123 l0_2 x26_2).f2) ((rd_T123 l0_2 x26_2).f3)))))) else (impl_IsValidAccount.j2 k2 x26_2 l0_2 (l0_2.length : Int) x26_2 true a0_0 a0_1 l0_2 ((rd_T123 l0_2 x26_2).f0) ((rd_T123 l0_2 x26_2).f1) ((rd_T123 l0_2 x26_2).f2) ((rd_T123 l0_2 x26_2).f3))) = some r := H
          have A20 := Aside0.mk A200
          clear A200
          by_cases c21 : t245 = true
          ·subst c21
           have H1 : (if x26_2 > 0 then (if 0 ≤ (wrap64 (x26_2 - 1)) then (if (wrap64 (x26_2 - 1)) < (l0_2.length : Int) then (if ((rd_T123 l0_2 (wrap64 (x26_2 - 1))).f0) ≥ ((rd_T123 l0_2 x26_2).f0) then (impl_IsValidAccount.j2 k2 x26_2 l0_2 (l0_2.length : Int) x26_2 true a0_0 a0_1 l0_2 ((rd_T123 l0_2 x26_2).f0) ((rd_T123 l0_2 x26_2).f1) ((rd_T123 l0_2 x26_2).f2) ((rd_T123 l0_2 x26_2).f3)) else ((impl_PrivateKey.f k2 ((rd_T123 l0_2 x26_2).f1)).bind fun t247 => (if t247 = 0 then (impl_IsValidAccount.j2 k2 x26_2 l0_2 (l0_2.length : Int) x26_2 true a0_0 a0_1 l0_2 ((rd_T123 l0_2 x26_2).f0) ((rd_T123 l0_2 x26_2).f1) ((rd_T123 l0_2 x26_2).f2) ((rd_T123 l0_2 x26_2).f3)) else ((impl_InRange.f ((rd_T123 l0_2 x26_2).f2) 0 1000000).bind fun t248 => (impl_IsValidAccount.j2 k2 x26_2 l0_2 (l0_2.length : Int) x26_2 (!t248) a0_0 a0_1 l0_2 ((rd_T123 l0_2 x26_2).f0) ((rd_T123 l0_2 x26_2).f1) ((rd_T123 l0_2 x26_2).f2) ((rd_T123 l0_2 x26_2).f3)))))) else (none)) else (none)) else ((impl_PrivateKey.f k2 ((rd_T123 l0_2 x26_2).f1)).bind fun t249 => (if t249 = 0 then (impl_IsValidAccount.j2 k2 x26_2 l0_2 (l0_2.length : Int) x26_2 true a0_0 a0_1 l0_2 ((rd_T123 l0_2 x26_2).f0) ((rd_T123 l0_2 x26_2).f1) ((rd_T123 l0_2 x26_2).f2) ((rd_T123 l0_2 x26_2).f3)) else ((impl_InRange.f ((rd_T123 l0_2 x26_2).f2) 0 1000000).bind fun t250 => (impl_IsValidAccount.j2 k2 x26_2 l0_2 (l0_2.length : Int) x26_2 (!t250) a0_0 a0_1 l0_2 ((rd_T123 l0_2 x26_2).f0) ((rd_T123 l0_2 x26_2).f1) ((rd_T123 l0_2 x26_2).f2) ((rd_T123 l0_2 x26_2).f3)))))) = some r := by rw [if_pos rfl] at H; exact H
           clear H
           have H := H1
           clear H1
           by_cases c22 : x26_2 > 0
           ·rw [if_pos c22] at H
            have c22b0 : decide (0 < x26_2) = true := decide_eq_true c22
            clear c22
            (first | rw [c22b0] | (simp only [i64_w, i32_w]; rw [c22b0]) | skip)
            obtain ⟨ji23, hji23⟩ : ∃ j_ : Int, (wrap64 (x26_2 - 1)) = j_ := ⟨_, rfl⟩
            replace H : (if 0 ≤ (ji23) then (if (ji23) < (l0_2.length : Int) then (if ((rd_T123 l0_2 (ji23)).f0) ≥ ((rd_T123 l0_2 x26_2).f0) then (impl_IsValidAccount.j2 k2 x26_2 l0_2 (l0_2.length : Int) x26_2 true a0_0 a0_1 l0_2 ((rd_T123 l0_2 x26_2).f0) ((rd_T123 l0_2 x26_2).f1) ((rd_T123 l0_2 x26_2).f2) ((rd_T123 l0_2 x26_2).f3)) else ((impl_PrivateKey.f k2 ((rd_T123 l0_2 x26_2).f1)).bind fun t247 => (if t247 = 0 then (impl_IsValidAccount.j2 k2 x26_2 l0_2 (l0_2.length : Int) x26_2 true a0_0 a0_1 l0_2 ((rd_T123 l0_2 x26_2).f0) ((rd_T123 l0_2 x26_2).f1) ((rd_T123 l0_2 x26_2).f2) ((rd_T123 l0_2 x26_2).f3)) else ((impl_InRange.f ((rd_T123 l0_2 x26_2).f2) 0 1000000).bind fun t248 => (impl_IsValidAccount.j2 k2 x26_2 l0_2 (l0_2.length : Int) x26_2 (!t248) a0_0 a0_1 l0_2 ((rd_T123 l0_2 x26_2).f0) ((rd_T123 l0_2 x26_2).f1) ((rd_T123 l0_2 x26_2).f2) ((rd_T123 l0_2 x26_2).f3)))))) else (none)) else (none)) = some r := by first | (rw [hji23] at H; exact H) | (simp only [hji23] at H ⊢; exact H)
            (try rw [hji23] at A20)
            have hji23w : (IntKind.i64.wrap (x26_2 - 1)) = ji23 := (i64_w _).trans hji23
            by_cases c24 : 0 ≤ (ji23)
            ·rw [if_pos c24] at H
             have c24b0 : decide (0 ≤ (ji23)) = true := decide_eq_true c24
             clear c24
             by_cases c25 : (ji23) < (l0_2.length : Int)
             ·rw [if_pos c25] at H
              have c25b0 : decide ((ji23) < (l0_2.length : Int)) = true := decide_eq_true c25
              clear c25
              by_cases c26 : ((rd_T123 l0_2 (ji23)).f0) ≥ ((rd_T123 l0_2 x26_2).f0)
              ·rw [if_pos c26] at H
               have c26b0 : decide (((rd_T123 l0_2 x26_2).f0) ≤ ((rd_T123 l0_2 (ji23)).f0)) = true := decide_eq_true c26
               clear c26
               have H' := Aside0.mk H
               clear H
               have hnb27 := NB244_240.out
               have hnc27 := NB240_244.out
               obtain ⟨hcz28_0, hcz28_1, hcz28_2, hcz28_3, hfz28_0, hfz28_1, hfz28_2, hfz28_3⟩ := bc4 BK244.out
               go_wp2_with (first | (go_at_call 82; (with_reducible refine (impl_InRange.calls ((rd_T123 l0_2 x26_2).f0) 0 1000000 true _ A20.out).mono ?_); rintro e w' ⟨rfl, ⟨nd, rfl⟩⟩; (try exact tQ)))
               obtain ⟨hcz29_0, hcz29_1, hcz29_2, hfz29_0, hfz29_1, hfz29_2⟩ := bc3 BK240.out
               have p246 : 0 ≤ ((ji23) : Int) := of_decide_eq_true tA
               have q246 : (ji23) < (l0_2.length : Int) := of_decide_eq_true tA
               obtain ⟨ad246, e246, hx246_0, hx246_1, hx246_2, hx246_3⟩ := at_T123 HR0_2.out (ji23) p246 q246
               obtain rfl : ad243 = ad246 := (by injection e246)
               have hn246_0 : ad243.block ≠ gb244 := Nat.ne_of_lt (Nat.lt_of_lt_of_le (by have := World.block_lt_of_cell? _ _ hx246_0; first | rwa [add_block] at this | exact this) GW244.out)
               have hn246_1 : ad243.block ≠ gb244 := Nat.ne_of_lt (Nat.lt_of_lt_of_le (by have := World.block_lt_of_cell? _ _ hx246_0; first | rwa [add_block] at this | exact this) GW244.out)
               have hn246_2 : ad243.block ≠ gb244 := Nat.ne_of_lt (Nat.lt_of_lt_of_le (by have := World.block_lt_of_cell? _ _ hx246_0; first | rwa [add_block] at this | exact this) GW244.out)
               have hn246_3 : ad243.block ≠ gb244 := Nat.ne_of_lt (Nat.lt_of_lt_of_le (by have := World.block_lt_of_cell? _ _ hx246_0; first | rwa [add_block] at this | exact this) GW244.out)
               replace hx246_0 := hbc HB hx246_0
               replace hx246_1 := hbc HB hx246_1
               replace hx246_2 := hbc HB hx246_2
               replace hx246_3 := hbc HB hx246_3
               have F_ := @far4 gb244 (.int .i64 ((rd_T123 l0_2 x26_2).f0)) (.int .i64 ((rd_T123 l0_2 x26_2).f1)) (.int .i64 ((rd_T123 l0_2 x26_2).f2)) (.bool ((rd_T123 l0_2 x26_2).f3))
               replace hx246_0 := (F_ tF).trans hx246_0
               replace hx246_1 := (F_ tF).trans hx246_1
               replace hx246_2 := (F_ tF).trans hx246_2
               replace hx246_3 := (F_ tF).trans hx246_3
               clear F_
               clear hn246_0
               clear hn246_1
               clear hn246_2
               clear hn246_3
               replace p246 := eq_true p246
               replace q246 := eq_true q246
               repeat (go_quiet (first | (go_at_call 82; (with_reducible refine (impl_InRange.calls ((rd_T123 l0_2 x26_2).f0) 0 1000000 true _ A20.out).mono ?_); rintro e w' ⟨rfl, ⟨nd, rfl⟩⟩; (try exact tQ))); try go_wp2_with (first | (go_at_call 82; (with_reducible refine (impl_InRange.calls ((rd_T123 l0_2 x26_2).f0) 0 1000000 true _ A20.out).mono ?_); rintro e w' ⟨rfl, ⟨nd, rfl⟩⟩; (try exact tQ))))
               go_meet
               case rel => exact ⟨_, (true), tS, H', ⟨by have := HJ1.out; have := HK2.out; first | omega | exact Nat.le_refl _⟩, ⟨by (with_reducible repeat (first | refine blk_drewN ?_ _ | refine blk_drew ?_ | refine blk_alloc ?_ _)); refine blk_far ?_ NB240_244.out _; (with_reducible repeat (first | refine blk_drewN ?_ _ | refine blk_drew ?_ | refine blk_alloc ?_ _)); refine blk_far ?_ NB240_244.out _; (with_reducible repeat (first | refine blk_drewN ?_ _ | refine blk_drew ?_ | refine blk_alloc ?_ _)); refine blk_far ?_ NB240_244.out _; (with_reducible repeat (first | refine blk_drewN ?_ _ | refine blk_drew ?_ | refine blk_alloc ?_ _)); refine blk_far ?_ NB240_244.out _; (with_reducible repeat (first | refine blk_drewN ?_ _ | refine blk_drew ?_ | refine blk_alloc ?_ _)); exact BK240.out⟩, ⟨by (with_reducible repeat (first | refine blk_drewN ?_ _ | refine blk_drew ?_ | refine blk_alloc ?_ _)); refine blk_put (cs := #[.int .i64 ((rd_T123 l0_2 x26_2).f0), .int .i64 ((rd_T123 l0_2 x26_2).f1), .int .i64 ((rd_T123 l0_2 x26_2).f2), .bool false]) ?_ 3 _ rfl; (with_reducible repeat (first | refine blk_drewN ?_ _ | refine blk_drew ?_ | refine blk_alloc ?_ _)); refine blk_put (cs := #[.int .i64 ((rd_T123 l0_2 x26_2).f0), .int .i64 ((rd_T123 l0_2 x26_2).f1), .int .i64 0, .bool false]) ?_ 2 _ rfl; (with_reducible repeat (first | refine blk_drewN ?_ _ | refine blk_drew ?_ | refine blk_alloc ?_ _)); refine blk_put (cs := #[.int .i64 ((rd_T123 l0_2 x26_2).f0), .int .i64 0, .int .i64 0, .bool false]) ?_ 1 _ rfl; (with_reducible repeat (first | refine blk_drewN ?_ _ | refine blk_drew ?_ | refine blk_alloc ?_ _)); refine blk_put (cs := #[.int .i64 0, .int .i64 0, .int .i64 0, .bool false]) ?_ 0 _ rfl; (with_reducible repeat (first | refine blk_drewN ?_ _ | refine blk_drew ?_ | refine blk_alloc ?_ _)); exact BK244.out⟩, ⟨tB⟩⟩
              ·rw [if_neg c26] at H
               have c26b0 : decide (((rd_T123 l0_2 x26_2).f0) ≤ ((rd_T123 l0_2 (ji23)).f0)) = false := decide_eq_false c26
               clear c26
               replace H := Option.bind_eq_some_iff.mp H
               obtain ⟨t247, A300, H⟩ := H
               replace H : (if t247 = 0 then (impl_IsValidAccount.j2 k2 x26_2 l0_2 (l0_2.length : Int) x26_2 true a0_0 a0_1 l0_2 ((rd_T123 l0_2 x26_2).f0) ((rd_T123 l0_2 x26_2).f1) ((rd_T123 l0_2 x26_2).f2) ((rd_T123 l0_2 x26_2).f3)) else ((impl_InRange.f ((rd_T123 l0_2 x26_2).f2) 0 1000000).bind fun t248 => (impl_IsValidAccount.j2 k2 x26_2 l0_2 (l0_2.length : Int) x26_2 (!t248) a0_0 a0_1 l0_2 ((rd_T123 l0_2 x26_2).f0) ((rd_T123 l0_2 x26_2).f1) ((rd_T123 l0_2 x26_2).f2) ((rd_T123 l0_2 x26_2).f3)))) = some r := H
               have A30 := Aside0.mk A300
               clear A300
               by_cases c31 : t247 = 0
               ·rw [if_pos c31] at H
                have c31b0 : (t247 == 0) = true := beq_iff_eq.mpr c31
                have c31b1 : (t247 != 0) = false := bne_eq_false_iff_eq.mpr c31
                clear c31
                have H' := Aside0.mk H
                clear H
                have hnb32 := NB244_240.out
                have hnc32 := NB240_244.out
                obtain ⟨hcz33_0, hcz33_1, hcz33_2, hcz33_3, hfz33_0, hfz33_1, hfz33_2, hfz33_3⟩ := bc4 BK244.out
                go_wp2_with (first | (go_at_call 82; (with_reducible refine (impl_InRange.calls ((rd_T123 l0_2 x26_2).f0) 0 1000000 true _ A20.out).mono ?_); rintro e w' ⟨rfl, ⟨nd, rfl⟩⟩; (try exact tQ)) | (go_at_call 91; (with_reducible refine (impl_PrivateKey.calls k2 ((rd_T123 l0_2 x26_2).f1) t247 _ A30.out).mono ?_); rintro e w' ⟨rfl, ⟨nd, rfl⟩⟩; (try exact tQ)))
                obtain ⟨hcz34_0, hcz34_1, hcz34_2, hfz34_0, hfz34_1, hfz34_2⟩ := bc3 BK240.out
                have p246 : 0 ≤ ((ji23) : Int) := of_decide_eq_true tA
                have q246 : (ji23) < (l0_2.length : Int) := of_decide_eq_true tA
                obtain ⟨ad246, e246, hx246_0, hx246_1, hx246_2, hx246_3⟩ := at_T123 HR0_2.out (ji23) p246 q246
                obtain rfl : ad243 = ad246 := (by injection e246)
                have hn246_0 : ad243.block ≠ gb244 := Nat.ne_of_lt (Nat.lt_of_lt_of_le (by have := World.block_lt_of_cell? _ _ hx246_0; first | rwa [add_block] at this | exact this) GW244.out)
                have hn246_1 : ad243.block ≠ gb244 := Nat.ne_of_lt (Nat.lt_of_lt_of_le (by have := World.block_lt_of_cell? _ _ hx246_0; first | rwa [add_block] at this | exact this) GW244.out)
                have hn246_2 : ad243.block ≠ gb244 := Nat.ne_of_lt (Nat.lt_of_lt_of_le (by have := World.block_lt_of_cell? _ _ hx246_0; first | rwa [add_block] at this | exact this) GW244.out)
                have hn246_3 : ad243.block ≠ gb244 := Nat.ne_of_lt (Nat.lt_of_lt_of_le (by have := World.block_lt_of_cell? _ _ hx246_0; first | rwa [add_block] at this | exact this) GW244.out)
                replace hx246_0 := hbc HB hx246_0
                replace hx246_1 := hbc HB hx246_1
                replace hx246_2 := hbc HB hx246_2
                replace hx246_3 := hbc HB hx246_3
                have F_ := @far4 gb244 (.int .i64 ((rd_T123 l0_2 x26_2).f0)) (.int .i64 ((rd_T123 l0_2 x26_2).f1)) (.int .i64 ((rd_T123 l0_2 x26_2).f2)) (.bool ((rd_T123 l0_2 x26_2).f3))
                replace hx246_0 := (F_ tF).trans hx246_0
                replace hx246_1 := (F_ tF).trans hx246_1
                replace hx246_2 := (F_ tF).trans hx246_2
                replace hx246_3 := (F_ tF).trans hx246_3
                clear F_
                clear hn246_0
                clear hn246_1
                clear hn246_2
                clear hn246_3
                replace p246 := eq_true p246
                replace q246 := eq_true q246
                repeat (go_quiet (first | (go_at_call 82; (with_reducible refine (impl_InRange.calls ((rd_T123 l0_2 x26_2).f0) 0 1000000 true _ A20.out).mono ?_); rintro e w' ⟨rfl, ⟨nd, rfl⟩⟩; (try exact tQ)) | (go_at_call 91; (with_reducible refine (impl_PrivateKey.calls k2 ((rd_T123 l0_2 x26_2).f1) t247 _ A30.out).mono ?_); rintro e w' ⟨rfl, ⟨nd, rfl⟩⟩; (try exact tQ))); try go_wp2_with (first | (go_at_call 82; (with_reducible refine (impl_InRange.calls ((rd_T123 l0_2 x26_2).f0) 0 1000000 true _ A20.out).mono ?_); rintro e w' ⟨rfl, ⟨nd, rfl⟩⟩; (try exact tQ)) | (go_at_call 91; (with_reducible refine (impl_PrivateKey.calls k2 ((rd_T123 l0_2 x26_2).f1) t247 _ A30.out).mono ?_); rintro e w' ⟨rfl, ⟨nd, rfl⟩⟩; (try exact tQ))))
                go_meet
                case rel => exact ⟨_, (true), tS, H', ⟨by have := HJ1.out; have := HK2.out; first | omega | exact Nat.le_refl _⟩, ⟨by (with_reducible repeat (first | refine blk_drewN ?_ _ | refine blk_drew ?_ | refine blk_alloc ?_ _)); refine blk_far ?_ NB240_244.out _; (with_reducible repeat (first | refine blk_drewN ?_ _ | refine blk_drew ?_ | refine blk_alloc ?_ _)); refine blk_far ?_ NB240_244.out _; (with_reducible repeat (first | refine blk_drewN ?_ _ | refine blk_drew ?_ | refine blk_alloc ?_ _)); refine blk_far ?_ NB240_244.out _; (with_reducible repeat (first | refine blk_drewN ?_ _ | refine blk_drew ?_ | refine blk_alloc ?_ _)); refine blk_far ?_ NB240_244.out _; (with_reducible repeat (first | refine blk_drewN ?_ _ | refine blk_drew ?_ | refine blk_alloc ?_ _)); exact BK240.out⟩, ⟨by (with_reducible repeat (first | refine blk_drewN ?_ _ | refine blk_drew ?_ | refine blk_alloc ?_ _)); refine blk_put (cs := #[.int .i64 ((rd_T123 l0_2 x26_2).f0), .int .i64 ((rd_T123 l0_2 x26_2).f1), .int .i64 ((rd_T123 l0_2 x26_2).f2), .bool false]) ?_ 3 _ rfl; (with_reducible repeat (first | refine blk_drewN ?_ _ | refine blk_drew ?_ | refine blk_alloc ?_ _)); refine blk_put (cs := #[.int .i64 ((rd_T123 l0_2 x26_2).f0), .int .i64 ((rd_T123 l0_2 x26_2).f1), .int .i64 0, .bool false]) ?_ 2 _ rfl; (with_reducible repeat (first | refine blk_drewN ?_ _ | refine blk_drew ?_ | refine blk_alloc ?_ _)); refine blk_put (cs := #[.int .i64 ((rd_T123 l0_2 x26_2).f0), .int .i64 0, .int .i64 0, .bool false]) ?_ 1 _ rfl; (with_reducible repeat (first | refine blk_drewN ?_ _ | refine blk_drew ?_ | refine blk_alloc ?_ _)); refine blk_put (cs := #[.int .i64 0, .int .i64 0, .int .i64 0, .bool false]) ?_ 0 _ rfl; (with_reducible repeat (first | refine blk_drewN ?_ _ | refine blk_drew ?_ | refine blk_alloc ?_ _)); exact BK244.out⟩, ⟨tB⟩⟩
               ·rw [if_neg c31] at H
                have c31b0 : (t247 == 0) = false := beq_eq_false_iff_ne.mpr c31
                have c31b1 : (t247 != 0) = true := bne_iff_ne.mpr c31
                replace H := Option.bind_eq_some_iff.mp H
                obtain ⟨t248, A350, H⟩ := H
                replace H : (impl_IsValidAccount.j2 k2 x26_2 l0_2 (l0_2.length : Int) x26_2 (!t248) a0_0 a0_1 l0_2 ((rd_T123 l0_2 x26_2).f0) ((rd_T123 l0_2 x26_2).f1) ((rd_T123 l0_2 x26_2).f2) ((rd_T123 l0_2 x26_2).f3)) = some r := H
                have A35 := Aside0.mk A350
                clear A350
                have H' := Aside0.mk H
                clear H
                have hnb36 := NB244_240.out
                have hnc36 := NB240_244.out
                obtain ⟨hcz37_0, hcz37_1, hcz37_2, hcz37_3, hfz37_0, hfz37_1, hfz37_2, hfz37_3⟩ := bc4 BK244.out
                go_wp2_with (first | (go_at_call 82; (with_reducible refine (impl_InRange.calls ((rd_T123 l0_2 x26_2).f0) 0 1000000 true _ A20.out).mono ?_); rintro e w' ⟨rfl, ⟨nd, rfl⟩⟩; (try exact tQ)) | (go_at_call 91; (with_reducible refine (impl_PrivateKey.calls k2 ((rd_T123 l0_2 x26_2).f1) t247 _ A30.out).mono ?_); rintro e w' ⟨rfl, ⟨nd, rfl⟩⟩; (try exact tQ)) | (go_at_call 82; (with_reducible refine (impl_InRange.calls ((rd_T123 l0_2 x26_2).f2) 0 1000000 t248 _ A35.out).mono ?_); rintro e w' ⟨rfl, ⟨nd, rfl⟩⟩; (try exact tQ)))
                obtain ⟨hcz38_0, hcz38_1, hcz38_2, hfz38_0, hfz38_1, hfz38_2⟩ := bc3 BK240.out
                have p246 : 0 ≤ ((ji23) : Int) := of_decide_eq_true tA
                have q246 : (ji23) < (l0_2.length : Int) := of_decide_eq_true tA
                obtain ⟨ad246, e246, hx246_0, hx246_1, hx246_2, hx246_3⟩ := at_T123 HR0_2.out (ji23) p246 q246
                obtain rfl : ad243 = ad246 := (by injection e246)
                have hn246_0 : ad243.block ≠ gb244 := Nat.ne_of_lt (Nat.lt_of_lt_of_le (by have := World.block_lt_of_cell? _ _ hx246_0; first | rwa [add_block] at this | exact this) GW244.out)
                have hn246_1 : ad243.block ≠ gb244 := Nat.ne_of_lt (Nat.lt_of_lt_of_le (by have := World.block_lt_of_cell? _ _ hx246_0; first | rwa [add_block] at this | exact this) GW244.out)
                have hn246_2 : ad243.block ≠ gb244 := Nat.ne_of_lt (Nat.lt_of_lt_of_le (by have := World.block_lt_of_cell? _ _ hx246_0; first | rwa [add_block] at this | exact this) GW244.out)
                have hn246_3 : ad243.block ≠ gb244 := Nat.ne_of_lt (Nat.lt_of_lt_of_le (by have := World.block_lt_of_cell? _ _ hx246_0; first | rwa [add_block] at this | exact this) GW244.out)
                replace hx246_0 := hbc HB hx246_0
                replace hx246_1 := hbc HB hx246_1
                replace hx246_2 := hbc HB hx246_2
                replace hx246_3 := hbc HB hx246_3
                have F_ := @far4 gb244 (.int .i64 ((rd_T123 l0_2 x26_2).f0)) (.int .i64 ((rd_T123 l0_2 x26_2).f1)) (.int .i64 ((rd_T123 l0_2 x26_2).f2)) (.bool ((rd_T123 l0_2 x26_2).f3))
                replace hx246_0 := (F_ tF).trans hx246_0
                replace hx246_1 := (F_ tF).trans hx246_1
                replace hx246_2 := (F_ tF).trans hx246_2
                replace hx246_3 := (F_ tF).trans hx246_3
                clear F_
                clear hn246_0
                clear hn246_1
                clear hn246_2
                clear hn246_3
                replace p246 := eq_true p246
                replace q246 := eq_true q246
                repeat (go_quiet (first | (go_at_call 82; (with_reducible refine (impl_InRange.calls ((rd_T123 l0_2 x26_2).f0) 0 1000000 true _ A20.out).mono ?_); rintro e w' ⟨rfl, ⟨nd, rfl⟩⟩; (try exact tQ)) | (go_at_call 91; (with_reducible refine (impl_PrivateKey.calls k2 ((rd_T123 l0_2 x26_2).f1) t247 _ A30.out).mono ?_); rintro e w' ⟨rfl, ⟨nd, rfl⟩⟩; (try exact tQ)) | (go_at_call 82; (with_reducible refine (impl_InRange.calls ((rd_T123 l0_2 x26_2).f2) 0 1000000 t248 _ A35.out).mono ?_); rintro e w' ⟨rfl, ⟨nd, rfl⟩⟩; (try exact tQ))); try go_wp2_with (first | (go_at_call 82; (with_reducible refine (impl_InRange.calls ((rd_T123 l0_2 x26_2).f0) 0 1000000 true _ A20.out).mono ?_); rintro e w' ⟨rfl, ⟨nd, rfl⟩⟩; (try exact tQ)) | (go_at_call 91; (with_reducible refine (impl_PrivateKey.calls k2 ((rd_T123 l0_2 x26_2).f1) t247 _ A30.out).mono ?_); rintro e w' ⟨rfl, ⟨nd, rfl⟩⟩; (try exact tQ)) | (go_at_call 82; (with_reducible refine (impl_InRange.calls ((rd_T123 l0_2 x26_2).f2) 0 1000000 t248 _ A35.out).mono ?_); rintro e w' ⟨rfl, ⟨nd, rfl⟩⟩; (try exact tQ))))
                go_meet
                case rel => exact ⟨_, (!t248), tS, H', ⟨by have := HJ1.out; have := HK2.out; first | omega | exact Nat.le_refl _⟩, ⟨by (with_reducible repeat (first | refine blk_drewN ?_ _ | refine blk_drew ?_ | refine blk_alloc ?_ _)); refine blk_far ?_ NB240_244.out _; (with_reducible repeat (first | refine blk_drewN ?_ _ | refine blk_drew ?_ | refine blk_alloc ?_ _)); refine blk_far ?_ NB240_244.out _; (with_reducible repeat (first | refine blk_drewN ?_ _ | refine blk_drew ?_ | refine blk_alloc ?_ _)); refine blk_far ?_ NB240_244.out _; (with_reducible repeat (first | refine blk_drewN ?_ _ | refine blk_drew ?_ | refine blk_alloc ?_ _)); refine blk_far ?_ NB240_244.out _; (with_reducible repeat (first | refine blk_drewN ?_ _ | refine blk_drew ?_ | refine blk_alloc ?_ _)); exact BK240.out⟩, ⟨by (with_reducible repeat (first | refine blk_drewN ?_ _ | refine blk_drew ?_ | refine blk_alloc ?_ _)); refine blk_put (cs := #[.int .i64 ((rd_T123 l0_2 x26_2).f0), .int .i64 ((rd_T123 l0_2 x26_2).f1), .int .i64 ((rd_T123 l0_2 x26_2).f2), .bool false]) ?_ 3 _ rfl; (with_reducible repeat (first | refine blk_drewN ?_ _ | refine blk_drew ?_ | refine blk_alloc ?_ _)); refine blk_put (cs := #[.int .i64 ((rd_T123 l0_2 x26_2).f0), .int .i64 ((rd_T123 l0_2 x26_2).f1), .int .i64 0, .bool false]) ?_ 2 _ rfl; (with_reducible repeat (first | refine blk_drewN ?_ _ | refine blk_drew ?_ | refine blk_alloc ?_ _)); refine blk_put (cs := #[.int .i64 ((rd_T123 l0_2 x26_2).f0), .int .i64 0, .int .i64 0, .bool false]) ?_ 1 _ rfl; (with_reducible repeat (first | refine blk_drewN ?_ _ | refine blk_drew ?_ | refine blk_alloc ?_ _)); refine blk_put (cs := #[.int .i64 0, .int .i64 0, .int .i64 0, .bool false]) ?_ 0 _ rfl; (with_reducible repeat (first | refine blk_drewN ?_ _ | refine blk_drew ?_ | refine blk_alloc ?_ _)); exact BK244.out⟩, ⟨tB⟩⟩
             ·rw [if_neg c25] at H
              exact absurd H (by simp)
            ·rw [if_neg c24] at H
             exact absurd H (by simp)
           ·rw [if_neg c22] at H
            have c22b0 : decide (0 < x26_2) = false := decide_eq_false c22
            clear c22
            (first | rw [c22b0] | (simp only [i64_w, i32_w]; rw [c22b0]) | skip)
            replace H := Option.bind_eq_some_iff.mp H
            obtain ⟨t249, A390, H⟩ := H
            replace H : (if t249 = 0 then (impl_IsValidAccount.j2 k2 x26_2 l0_2 (l0_2.length : Int) x26_2 true a0_0 a0_1 l0_2 ((rd_T123 l0_2 x26_2).f0) ((rd_T123 l0_2 x26_2).f1) ((rd_T123 l0_2 x26_2).f2) ((rd_T123 l0_2 x26_2).f3)) else ((impl_InRange.f ((rd_T123 l0_2 x26_2).f2) 0 1000000).bind fun t250 => (impl_IsValidAccount.j2 k2 x26_2 l0_2 (l0_2.length : Int) x26_2 (!t250) a0_0 a0_1 l0_2 ((rd_T123 l0_2 x26_2).f0) ((rd_T123 l0_2 x26_2).f1) ((rd_T123 l0_2 x26_2).f2) ((rd_T123 l0_2 x26_2).f3)))) = some r := H
            have A39 := Aside0.mk A390
            clear A390
            by_cases c40 : t249 = 0
            ·rw [if_pos c40] at H
             have c40b0 : (t249 == 0) = true := beq_iff_eq.mpr c40
             have c40b1 : (t249 != 0) = false := bne_eq_false_iff_eq.mpr c40
             clear c40
             have H' := Aside0.mk H
             clear H
             have hnb41 := NB244_240.out
             have hnc41 := NB240_244.out
             obtain ⟨hcz42_0, hcz42_1, hcz42_2, hcz42_3, hfz42_0, hfz42_1, hfz42_2, hfz42_3⟩ := bc4 BK244.out
             go_wp2_with (first | (go_at_call 82; (with_reducible refine (impl_InRange.calls ((rd_T123 l0_2 x26_2).f0) 0 1000000 true _ A20.out).mono ?_); rintro e w' ⟨rfl, ⟨nd, rfl⟩⟩; (try exact tQ)) | (go_at_call 91; (with_reducible refine (impl_PrivateKey.calls k2 ((rd_T123 l0_2 x26_2).f1) t249 _ A39.out).mono ?_); rintro e w' ⟨rfl, ⟨nd, rfl⟩⟩; (try exact tQ)))
             repeat (go_quiet (first | (go_at_call 82; (with_reducible refine (impl_InRange.calls ((rd_T123 l0_2 x26_2).f0) 0 1000000 true _ A20.out).mono ?_); rintro e w' ⟨rfl, ⟨nd, rfl⟩⟩; (try exact tQ)) | (go_at_call 91; (with_reducible refine (impl_PrivateKey.calls k2 ((rd_T123 l0_2 x26_2).f1) t249 _ A39.out).mono ?_); rintro e w' ⟨rfl, ⟨nd, rfl⟩⟩; (try exact tQ))); try go_wp2_with (first | (go_at_call 82; (with_reducible refine (impl_InRange.calls ((rd_T123 l0_2 x26_2).f0) 0 1000000 true _ A20.out).mono ?_); rintro e w' ⟨rfl, ⟨nd, rfl⟩⟩; (try exact tQ)) | (go_at_call 91; (with_reducible refine (impl_PrivateKey.calls k2 ((rd_T123 l0_2 x26_2).f1) t249 _ A39.out).mono ?_); rintro e w' ⟨rfl, ⟨nd, rfl⟩⟩; (try exact tQ))))
             go_meet
             case rel => exact ⟨_, (true), tS, H', ⟨by have := HJ1.out; have := HK2.out; first | omega | exact Nat.le_refl _⟩, ⟨by (with_reducible repeat (first | refine blk_drewN ?_ _ | refine blk_drew ?_ | refine blk_alloc ?_ _)); refine blk_far ?_ NB240_244.out _; (with_reducible repeat (first | refine blk_drewN ?_ _ | refine blk_drew ?_ | refine blk_alloc ?_ _)); refine blk_far ?_ NB240_244.out _; (with_reducible repeat (first | refine blk_drewN ?_ _ | refine blk_drew ?_ | refine blk_alloc ?_ _)); refine blk_far ?_ NB240_244.out _; (with_reducible repeat (first | refine blk_drewN ?_ _ | refine blk_drew ?_ | refine blk_alloc ?_ _)); refine blk_far ?_ NB240_244.out _; (with_reducible repeat (first | refine blk_drewN ?_ _ | refine blk_drew ?_ | refine blk_alloc ?_ _)); exact BK240.out⟩, ⟨by (with_reducible repeat (first | refine blk_drewN ?_ _ | refine blk_drew ?_ | refine blk_alloc ?_ _)); refine blk_put (cs := #[.int .i64 ((rd_T123 l0_2 x26_2).f0), .int .i64 ((rd_T123 l0_2 x26_2).f1), .int .i64 ((rd_T123 l0_2 x26_2).f2), .bool false]) ?_ 3 _ rfl; (with_reducible repeat (first | refine blk_drewN ?_ _ | refine blk_drew ?_ | refine blk_alloc ?_ _)); refine blk_put (cs := #[.int .i64 ((rd_T123 l0_2 x26_2).f0), .int .i64 ((rd_T123 l0_2 x26_2).f1), .int .i64 0, .bool false]) ?_ 2 _ rfl; (with_reducible repeat (first | refine blk_drewN ?_ _ | refine blk_drew ?_ | refine blk_alloc ?_ _)); refine blk_put (cs := #[.int .i64 ((rd_T123 l0_2 x26_2).f0), .int .i64 0, .int .i64 0, .bool false]) ?_ 1 _ rfl; (with_reducible repeat (first | refine blk_drewN ?_ _ | refine blk_drew ?_ | refine blk_alloc ?_ _)); refine blk_put (cs := #[.int .i64 0, .int .i64 0, .int .i64 0, .bool false]) ?_ 0 _ rfl; (with_reducible repeat (first | refine blk_drewN ?_ _ | refine blk_drew ?_ | refine blk_alloc ?_ _)); exact BK244.out⟩, ⟨tB⟩⟩
            ·rw [if_neg c40] at H
             have c40b0 : (t249 == 0) = false := beq_eq_false_iff_ne.mpr c40
             have c40b1 : (t249 != 0) = true := bne_iff_ne.mpr c40
             replace H := Option.bind_eq_some_iff.mp H
             obtain ⟨t250, A430, H⟩ := H
             replace H : (impl_IsValidAccount.j2 k2 x26_2 l0_2 (l0_2.length : Int) x26_2 (!t250) a0_0 a0_1 l0_2 ((rd_T123 l0_2 x26_2).f0) ((rd_T123 l0_2 x26_2).f1) ((rd_T123 l0_2 x26_2).f2) ((rd_T123 l0_2 x26_2).f3)) = some r := H
             have A43 := Aside0.mk A430
             clear A430
             have H' := Aside0.mk H
             clear H
             have hnb44 := NB244_240.out
             have hnc44 := NB240_244.out
             obtain ⟨hcz45_0, hcz45_1, hcz45_2, hcz45_3, hfz45_0, hfz45_1, hfz45_2, hfz45_3⟩ := bc4 BK244.out
             go_wp2_with (first | (go_at_call 82; (with_reducible refine (impl_InRange.calls ((rd_T123 l0_2 x26_2).f0) 0 1000000 true _ A20.out).mono ?_); rintro e w' ⟨rfl, ⟨nd, rfl⟩⟩; (try exact tQ)) | (go_at_call 91; (with_reducible refine (impl_PrivateKey.calls k2 ((rd_T123 l0_2 x26_2).f1) t249 _ A39.out).mono ?_); rintro e w' ⟨rfl, ⟨nd, rfl⟩⟩; (try exact tQ)) | (go_at_call 82; (with_reducible refine (impl_InRange.calls ((rd_T123 l0_2 x26_2).f2) 0 1000000 t250 _ A43.out).mono ?_); rintro e w' ⟨rfl, ⟨nd, rfl⟩⟩; (try exact tQ)))
             repeat (go_quiet (first | (go_at_call 82; (with_reducible refine (impl_InRange.calls ((rd_T123 l0_2 x26_2).f0) 0 1000000 true _ A20.out).mono ?_); rintro e w' ⟨rfl, ⟨nd, rfl⟩⟩; (try exact tQ)) | (go_at_call 91; (with_reducible refine (impl_PrivateKey.calls k2 ((rd_T123 l0_2 x26_2).f1) t249 _ A39.out).mono ?_); rintro e w' ⟨rfl, ⟨nd, rfl⟩⟩; (try exact tQ)) | (go_at_call 82; (with_reducible refine (impl_InRange.calls ((rd_T123 l0_2 x26_2).f2) 0 1000000 t250 _ A43.out).mono ?_); rintro e w' ⟨rfl, ⟨nd, rfl⟩⟩; (try exact tQ))); try go_wp2_with (first | (go_at_call 82; (with_reducible refine (impl_InRange.calls ((rd_T123 l0_2 x26_2).f0) 0 1000000 true _ A20.out).mono ?_); rintro e w' ⟨rfl, ⟨nd, rfl⟩⟩; (try exact tQ)) | (go_at_call 91; (with_reducible refine (impl_PrivateKey.calls k2 ((rd_T123 l0_2 x26_2).f1) t249 _ A39.out).mono ?_); rintro e w' ⟨rfl, ⟨nd, rfl⟩⟩; (try exact tQ)) | (go_at_call 82; (with_reducible refine (impl_InRange.calls ((rd_T123 l0_2 x26_2).f2) 0 1000000 t250 _ A43.out).mono ?_); rintro e w' ⟨rfl, ⟨nd, rfl⟩⟩; (try exact tQ))))
             go_meet
             case rel => exact ⟨_, (!t250), tS, H', ⟨by have := HJ1.out; have := HK2.out; first | omega | exact Nat.le_refl _⟩, ⟨by (with_reducible repeat (first | refine blk_drewN ?_ _ | refine blk_drew ?_ | refine blk_alloc ?_ _)); refine blk_far ?_ NB240_244.out _; (with_reducible repeat (first | refine blk_drewN ?_ _ | refine blk_drew ?_ | refine blk_alloc ?_ _)); refine blk_far ?_ NB240_244.out _; (with_reducible repeat (first | refine blk_drewN ?_ _ | refine blk_drew ?_ | refine blk_alloc ?_ _)); refine blk_far ?_ NB240_244.out _; (with_reducible repeat (first | refine blk_drewN ?_ _ | refine blk_drew ?_ | refine blk_alloc ?_ _)); refine blk_far ?_ NB240_244.out _; (with_reducible repeat (first | refine blk_drewN ?_ _ | refine blk_drew ?_ | refine blk_alloc ?_ _)); exact BK240.out⟩, ⟨by (with_reducible repeat (first | refine blk_drewN ?_ _ | refine blk_drew ?_ | refine blk_alloc ?_ _)); refine blk_put (cs := #[.int .i64 ((rd_T123 l0_2 x26_2).f0), .int .i64 ((rd_T123 l0_2 x26_2).f1), .int .i64 ((rd_T123 l0_2 x26_2).f2), .bool false]) ?_ 3 _ rfl; (with_reducible repeat (first | refine blk_drewN ?_ _ | refine blk_drew ?_ | refine blk_alloc ?_ _)); refine blk_put (cs := #[.int .i64 ((rd_T123 l0_2 x26_2).f0), .int .i64 ((rd_T123 l0_2 x26_2).f1), .int .i64 0, .bool false]) ?_ 2 _ rfl; (with_reducible repeat (first | refine blk_drewN ?_ _ | refine blk_drew ?_ | refine blk_alloc ?_ _)); refine blk_put (cs := #[.int .i64 ((rd_T123 l0_2 x26_2).f0), .int .i64 0, .int .i64 0, .bool false]) ?_ 1 _ rfl; (with_reducible repeat (first | refine blk_drewN ?_ _ | refine blk_drew ?_ | refine blk_alloc ?_ _)); refine blk_put (cs := #[.int .i64 0, .int .i64 0, .int .i64 0, .bool false]) ?_ 0 _ rfl; (with_reducible repeat (first | refine blk_drewN ?_ _ | refine blk_drew ?_ | refine blk_alloc ?_ _)); exact BK244.out⟩, ⟨tB⟩⟩
          ·replace c21 := Bool.eq_false_iff.mpr c21
           subst c21
           have H1 : (impl_IsValidAccount.j2 k2 x26_2 l0_2 (l0_2.length : Int) x26_2 true a0_0 a0_1 l0_2 ((rd_T123 l0_2 x26_2).f0) ((rd_T123 l0_2 x26_2).f1) ((rd_T123 l0_2 x26_2).f2) ((rd_T123 l0_2 x26_2).f3)) = some r := by rw [if_neg (show ¬ (false = true) by decide)] at H; exact H
           clear H
           have H := H1
           clear H1
           have H' := Aside0.mk H
           clear H
           have hnb46 := NB244_240.out
           have hnc46 := NB240_244.out
           obtain ⟨hcz47_0, hcz47_1, hcz47_2, hcz47_3, hfz47_0, hfz47_1, hfz47_2, hfz47_3⟩ := bc4 BK244.out
           go_wp2_with (first | (go_at_call 82; (with_reducible refine (impl_InRange.calls ((rd_T123 l0_2 x26_2).f0) 0 1000000 false _ A20.out).mono ?_); rintro e w' ⟨rfl, ⟨nd, rfl⟩⟩; (try exact tQ)))
           repeat (go_quiet (first | (go_at_call 82; (with_reducible refine (impl_InRange.calls ((rd_T123 l0_2 x26_2).f0) 0 1000000 false _ A20.out).mono ?_); rintro e w' ⟨rfl, ⟨nd, rfl⟩⟩; (try exact tQ))); try go_wp2_with (first | (go_at_call 82; (with_reducible refine (impl_InRange.calls ((rd_T123 l0_2 x26_2).f0) 0 1000000 false _ A20.out).mono ?_); rintro e w' ⟨rfl, ⟨nd, rfl⟩⟩; (try exact tQ))))
           go_meet
           case rel => exact ⟨_, (true), tS, H', ⟨by have := HJ1.out; have := HK2.out; first | omega | exact Nat.le_refl _⟩, ⟨by (with_reducible repeat (first | refine blk_drewN ?_ _ | refine blk_drew ?_ | refine blk_alloc ?_ _)); refine blk_far ?_ NB240_244.out _; (with_reducible repeat (first | refine blk_drewN ?_ _ | refine blk_drew ?_ | refine blk_alloc ?_ _)); refine blk_far ?_ NB240_244.out _; (with_reducible repeat (first | refine blk_drewN ?_ _ | refine blk_drew ?_ | refine blk_alloc ?_ _)); refine blk_far ?_ NB240_244.out _; (with_reducible repeat (first | refine blk_drewN ?_ _ | refine blk_drew ?_ | refine blk_alloc ?_ _)); refine blk_far ?_ NB240_244.out _; (with_reducible repeat (first | refine blk_drewN ?_ _ | refine blk_drew ?_ | refine blk_alloc ?_ _)); exact BK240.out⟩, ⟨by (with_reducible repeat (first | refine blk_drewN ?_ _ | refine blk_drew ?_ | refine blk_alloc ?_ _)); refine blk_put (cs := #[.int .i64 ((rd_T123 l0_2 x26_2).f0), .int .i64 ((rd_T123 l0_2 x26_2).f1), .int .i64 ((rd_T123 l0_2 x26_2).f2), .bool false]) ?_ 3 _ rfl; (with_reducible repeat (first | refine blk_drewN ?_ _ | refine blk_drew ?_ | refine blk_alloc ?_ _)); refine blk_put (cs := #[.int .i64 ((rd_T123 l0_2 x26_2).f0), .int .i64 ((rd_T123 l0_2 x26_2).f1), .int .i64 0, .bool false]) ?_ 2 _ rfl; (with_reducible repeat (first | refine blk_drewN ?_ _ | refine blk_drew ?_ | refine blk_alloc ?_ _)); refine blk_put (cs := #[.int .i64 ((rd_T123 l0_2 x26_2).f0), .int .i64 0, .int .i64 0, .bool false]) ?_ 1 _ rfl; (with_reducible repeat (first | refine blk_drewN ?_ _ | refine blk_drew ?_ | refine blk_alloc ?_ _)); refine blk_put (cs := #[.int .i64 0, .int .i64 0, .int .i64 0, .bool false]) ?_ 0 _ rfl; (with_reducible repeat (first | refine blk_drewN ?_ _ | refine blk_drew ?_ | refine blk_alloc ?_ _)); exact BK244.out⟩, ⟨tB⟩⟩
         case rest =>
          clear HC16
          try clear c1
          try clear c2
          try clear p2
          try clear q2
          try clear hx2
          try clear c3
          try clear c4
          try clear c5
          try clear p6
          try clear c7
          try clear c10
          try clear c11
          try clear c13
          try clear c13b0
          try clear c14
          try clear c14b0
          try clear c15
          try clear c15b0
          try clear c18
          try clear c21
          try clear c22
          try clear c22b0
          try clear c24
          try clear c24b0
          try clear p24
          try clear q24
          try clear hx24
          try clear c25
          try clear c25b0
          try clear c26
          try clear c26b0
          try clear c27
          try clear c31
          try clear c31b0
          try clear c31b1
          try clear c32
          try clear c36
          try clear c40
          try clear c40b0
          try clear c40b1
          try clear c41
          try clear c44
          try clear c46
          try clear hcz10_0
          try clear hcz10_1
          try clear hcz10_2
          try clear hcz12_0
          try clear hcz12_1
          try clear hcz12_2
          try clear hcz19_0
          try clear hcz19_1
          try clear hcz19_2
          try clear hcz19_3
          try clear hcz28_0
          try clear hcz28_1
          try clear hcz28_2
          try clear hcz28_3
          try clear hcz29_0
          try clear hcz29_1
          try clear hcz29_2
          try clear hcz33_0
          try clear hcz33_1
          try clear hcz33_2
          try clear hcz33_3
          try clear hcz34_0
          try clear hcz34_1
          try clear hcz34_2
          try clear hcz37_0
          try clear hcz37_1
          try clear hcz37_2
          try clear hcz37_3
          try clear hcz38_0
          try clear hcz38_1
          try clear hcz38_2
          try clear hcz42_0
          try clear hcz42_1
          try clear hcz42_2
          try clear hcz42_3
          try clear hcz45_0
          try clear hcz45_1
          try clear hcz45_2
          try clear hcz45_3
          try clear hcz47_0
          try clear hcz47_1
          try clear hcz47_2
          try clear hcz47_3
          try clear hcz8_0
          try clear hcz8_1
          try clear hcz8_2
          try clear hcz9_0
          try clear hcz9_1
          try clear hcz9_2
          try clear hfz10_0
          try clear hfz10_1
          try clear hfz10_2
          try clear hfz12_0
          try clear hfz12_1
          try clear hfz12_2
          try clear hfz19_0
          try clear hfz19_1
          try clear hfz19_2
          try clear hfz19_3
          try clear hfz28_0
          try clear hfz28_1
          try clear hfz28_2
          try clear hfz28_3
          try clear hfz29_0
          try clear hfz29_1
          try clear hfz29_2
          try clear hfz33_0
          try clear hfz33_1
          try clear hfz33_2
          try clear hfz33_3
          try clear hfz34_0
          try clear hfz34_1
          try clear hfz34_2
          try clear hfz37_0
          try clear hfz37_1
          try clear hfz37_2
          try clear hfz37_3
          try clear hfz38_0
          try clear hfz38_1
          try clear hfz38_2
          try clear hfz42_0
          try clear hfz42_1
          try clear hfz42_2
          try clear hfz42_3
          try clear hfz45_0
          try clear hfz45_1
          try clear hfz45_2
          try clear hfz45_3
          try clear hfz47_0
          try clear hfz47_1
          try clear hfz47_2
          try clear hfz47_3
          try clear hfz8_0
          try clear hfz8_1
          try clear hfz8_2
          try clear hfz9_0
          try clear hfz9_1
          try clear hfz9_2
          try clear hx243_0
          try clear hx243_1
          try clear hx243_2
          try clear hx243_3
          try clear hx246_0
          try clear hx246_1
          try clear hx246_2
          try clear hx246_3
          try clear p2
          try clear p243
          try clear p246
          try clear q243
          try clear q246
          obtain ⟨kq, x62_15, rfl, HA, HJ15, BK240, BK244, HB⟩ := hcut
          cases kq with
          | zero => exact absurd HA.out (by simp [impl_IsValidAccount.j2])
          | succ kj15 =>
           have H := HA.out
           clear HA
           simp only [impl_IsValidAccount.j2] at H
           by_cases c48 : x62_15 = true
           ·subst c48
            have H1 : (some false) = some r := by rw [if_pos rfl] at H; exact H
            clear H
            have H := H1
            clear H1
            obtain rfl := Option.some.inj H
            go_wp2
            repeat (go_quiet (fail); try go_wp2)
            go_ret
            exact ⟨tE, tB⟩
           ·replace c48 := Bool.eq_false_iff.mpr c48
            subst c48
            have H1 : (if 0 ≤ x26_2 then (if x26_2 ≤ (l0_2.length : Int) then ((some (l0_2.take (x26_2 : Int).toNat : List (S123))).bind fun y251 => (impl_IsValidAccount.l1 kj15 l0_2 (l0_2.length : Int) x26_2 y251 (y251.length : Int) 0 a0_0 a0_1 l0_2 ((rd_T123 l0_2 x26_2).f0) ((rd_T123 l0_2 x26_2).f1) ((rd_T123 l0_2 x26_2).f2) ((rd_T123 l0_2 x26_2).f3))) else (none)) else (none)) = some r := by rw [if_neg (show ¬ (false = true) by decide)] at H; exact H
            clear H
            have H := H1
            clear H1
            by_cases c49 : 0 ≤ x26_2
            ·rw [if_pos c49] at H
             have c49b0 := eq_true c49
             have c49b1 : decide (0 ≤ x26_2) = true := decide_eq_true c49
             clear c49
             by_cases c50 : x26_2 ≤ (l0_2.length : Int)
             ·rw [if_pos c50] at H
              have c50b0 := eq_true c50
              have c50b1 : decide (x26_2 ≤ (l0_2.length : Int)) = true := decide_eq_true c50
              clear c50
              obtain ⟨y251, hy251⟩ : ∃ y_ : List (S123), y_ = (l0_2.take (x26_2 : Int).toNat) := ⟨_, rfl⟩
              replace H : (impl_IsValidAccount.l1 kj15 l0_2 (l0_2.length : Int) x26_2 y251 (y251.length : Int) 0 a0_0 a0_1 l0_2 ((rd_T123 l0_2 x26_2).f0) ((rd_T123 l0_2 x26_2).f1) ((rd_T123 l0_2 x26_2).f2) ((rd_T123 l0_2 x26_2).f3)) = some r := by first | (rw [hy251]; with_reducible exact H) | (have H2_ := (Option.bind_some _ _).symm.trans H; rw [hy251]; with_reducible exact H2_) | (have H2_ := (Option.bind_some _ _).symm.trans H; with_reducible exact H2_) | with_reducible exact H | (rw [hy251]; exact H) | exact H
              have Ny251 := Aside0.mk hy251
              clear hy251
              have H' := Aside0.mk H
              clear H
              have hnb51 := NB240_244.out
              have hnc51 := NB244_240.out
              obtain ⟨hcz52_0, hcz52_1, hcz52_2, hfz52_0, hfz52_1, hfz52_2⟩ := bc3 BK240.out
              have q53 : (x26_2 : Int) ≤ ((l0_2.length : Int) : Int) := of_decide_eq_true tA
              obtain ⟨i053, hi053, _, hsz53, _⟩ := info_parts info123
              have hroom53 : l0_2.length ≤ c0_2 := HC0_2.out
              have hC53 : Kd.C k123 _ (some ad243) l0_2.length l0_2 := HR0_2.out
              have hcut53 := cut_to (P := Try.prog) 74 123 .i64 Try.underlying74 hi053 (some ad243) l0_2.length c0_2 x26_2 (of_decide_eq_true tA) q53 hroom53
              have hr53 := Kd.C_take (m := (x26_2 : Int).toNat) hC53 (by omega)
              have hy53 : y251.length = (x26_2 : Int).toNat := (by rw [Ny251.out, List.length_take]; omega)
              rw [← Ny251.out] at hr53
              rw [← hy53] at hcut53
              have HR254 := Aside0.mk hr53
              have HC254 := Aside0.mk (show y251.length ≤ c0_2 from by omega)
              clear hr53 hC53 hroom53 hi053 hsz53
              have KY53 := Aside0.mk hy53
              clear hy53
              replace q53 := eq_true q53
              go_wp2
              repeat (go_quiet (fail); try go_wp2)
              go_loopg [68] kj15 (fun kq v68 w' => ∃ (x68_4 : Int), v68 = .int .i64 x68_4 ∧ Aside0 (impl_IsValidAccount.l1 kq l0_2 (l0_2.length : Int) x26_2 y251 (y251.length : Int) x68_4 a0_0 a0_1 l0_2 ((rd_T123 l0_2 x26_2).f0) ((rd_T123 l0_2 x26_2).f1) ((rd_T123 l0_2 x26_2).f2) ((rd_T123 l0_2 x26_2).f3) = some r) ∧ Aside0 (kq ≤ kj15) ∧ Aside0 (w'.heap[gb240]? = some (.cells #[.int .i64 a0_0, .int .i64 a0_1, (.slice (some ad243) l0_2.length c0_2)] 76 (0, 0))) ∧ Aside0 (w'.heap[gb244]? = some (.cells #[.int .i64 ((rd_T123 l0_2 x26_2).f0), .int .i64 ((rd_T123 l0_2 x26_2).f1), .int .i64 ((rd_T123 l0_2 x26_2).f2), .bool ((rd_T123 l0_2 x26_2).f3)] 123 (0, 0))) ∧ Aside0 (Below w.heap.size w w'))
              case atStart => exact ⟨(0), tS, H', ⟨Nat.le_refl _⟩, ⟨tK BK240⟩, ⟨tK BK244⟩, ⟨tB⟩⟩
              case round =>
               clear H'
               try clear c1
               try clear c2
               try clear p2
               try clear q2
               try clear hx2
               try clear c3
               try clear c4
               try clear c5
               try clear q5
               try clear p6
               try clear c7
               try clear c10
               try clear c11
               try clear c13
               try clear c13b0
               try clear c14
               try clear c14b0
               try clear c15
               try clear c15b0
               try clear c18
               try clear c21
               try clear c22
               try clear c22b0
               try clear c24
               try clear c24b0
               try clear p24
               try clear q24
               try clear hx24
               try clear c25
               try clear c25b0
               try clear c26
               try clear c26b0
               try clear c27
               try clear c31
               try clear c31b0
               try clear c31b1
               try clear c32
               try clear c36
               try clear c40
               try clear c40b0
               try clear c40b1
               try clear c41
               try clear c44
               try clear c46
               try clear c48
               try clear c49
               try clear c49b0
               try clear c49b1
               try clear c50
               try clear c50b0
               try clear c50b1
               try clear c51
               try clear q53
               try clear hcz10_0
               try clear hcz10_1
               try clear hcz10_2
               try clear hcz12_0
               try clear hcz12_1
               try clear hcz12_2
               try clear hcz19_0
               try clear hcz19_1
               try clear hcz19_2
               try clear hcz19_3
               try clear hcz28_0
               try clear hcz28_1
               try clear hcz28_2
               try clear hcz28_3
               try clear hcz29_0
               try clear hcz29_1
               try clear hcz29_2
               try clear hcz33_0
               try clear hcz33_1
               try clear hcz33_2
               try clear hcz33_3
               try clear hcz34_0
               try clear hcz34_1
               try clear hcz34_2
               try clear hcz37_0
               try clear hcz37_1
               try clear hcz37_2
               try clear hcz37_3
               try clear hcz38_0
               try clear hcz38_1
               try clear hcz38_2
               try clear hcz42_0
               try clear hcz42_1
               try clear hcz42_2
               try clear hcz42_3
               try clear hcz45_0
               try clear hcz45_1
               try clear hcz45_2
               try clear hcz45_3
               try clear hcz47_0
               try clear hcz47_1
               try clear hcz47_2
               try clear hcz47_3
               try clear hcz52_0
               try clear hcz52_1
               try clear hcz52_2
               try clear hcz8_0
               try clear hcz8_1
               try clear hcz8_2
               try clear hcz9_0
               try clear hcz9_1
               try clear hcz9_2
               try clear hfz10_0
               try clear hfz10_1
               try clear hfz10_2
               try clear hfz12_0
               try clear hfz12_1
               try clear hfz12_2
               try clear hfz19_0
               try clear hfz19_1
               try clear hfz19_2
               try clear hfz19_3
               try clear hfz28_0
               try clear hfz28_1
               try clear hfz28_2
               try clear hfz28_3
               try clear hfz29_0
               try clear hfz29_1
               try clear hfz29_2
               try clear hfz33_0
               try clear hfz33_1
               try clear hfz33_2
               try clear hfz33_3
               try clear hfz34_0
               try clear hfz34_1
               try clear hfz34_2
               try clear hfz37_0
               try clear hfz37_1
               try clear hfz37_2
               try clear hfz37_3
               try clear hfz38_0
               try clear hfz38_1
               try clear hfz38_2
               try clear hfz42_0
               try clear hfz42_1
               try clear hfz42_2
               try clear hfz42_3
               try clear hfz45_0
               try clear hfz45_1
               try clear hfz45_2
               try clear hfz45_3
               try clear hfz47_0
               try clear hfz47_1
               try clear hfz47_2
               try clear hfz47_3
               try clear hfz52_0
               try clear hfz52_1
               try clear hfz52_2
               try clear hfz8_0
               try clear hfz8_1
               try clear hfz8_2
               try clear hfz9_0
               try clear hfz9_1
               try clear hfz9_2
               try clear hx243_0
               try clear hx243_1
               try clear hx243_2
               try clear hx243_3
               try clear hx246_0
               try clear hx246_1
               try clear hx246_2
               try clear hx246_3
               try clear p2
               try clear p24
               try clear p243
               try clear p246
               try clear p6
               try clear q2
               try clear q24
               try clear q243
               try clear q246
               try clear q53
               obtain ⟨x68_4, rfl, HA, HK4, BK240, BK244, HB⟩ := hrel
               cases gk with
               | zero => exact absurd HA.out (by simp [impl_IsValidAccount.l1])
               | succ k4 =>
                have H := HA.out
                clear HA
                simp only [impl_IsValidAccount.l1] at H
                by_cases c54 : x68_4 < (y251.length : Int)
                ·rw [if_pos c54] at H
                 have c54b0 : decide (x68_4 < (y251.length : Int)) = true := decide_eq_true c54
                 clear c54
                 by_cases c55 : 0 ≤ x68_4
                 ·rw [if_pos c55] at H
                  have c55b0 : decide (0 ≤ x68_4) = true := decide_eq_true c55
                  clear c55
                  by_cases c56 : x68_4 < (y251.length : Int)
                  ·rw [if_pos c56] at H
                   have c56b0 : decide (x68_4 < (y251.length : Int)) = true := decide_eq_true c56
                   clear c56
                   by_cases c57 : ((rd_T123 y251 x68_4).f1) = ((rd_T123 l0_2 x26_2).f1)
                   ·rw [if_pos c57] at H
                    have c57b0 : (((rd_T123 y251 x68_4).f1) == ((rd_T123 l0_2 x26_2).f1)) = true := beq_iff_eq.mpr c57
                    have c57b1 : (((rd_T123 y251 x68_4).f1) != ((rd_T123 l0_2 x26_2).f1)) = false := bne_eq_false_iff_eq.mpr c57
                    clear c57
                    obtain rfl := Option.some.inj H
                    have p255 : 0 ≤ (x68_4 : Int) := of_decide_eq_true tA
                    have q255 : x68_4 < (y251.length : Int) := of_decide_eq_true tA
                    obtain ⟨ad255, e255, hx255_0, hx255_1, hx255_2, hx255_3⟩ := at_T123 HR254.out x68_4 p255 q255
                    obtain rfl : ad243 = ad255 := (by injection e255)
                    replace hx255_0 := hbc HB hx255_0
                    replace hx255_1 := hbc HB hx255_1
                    replace hx255_2 := hbc HB hx255_2
                    replace hx255_3 := hbc HB hx255_3
                    replace p255 := eq_true p255
                    replace q255 := eq_true q255
                    go_wp2_with (first | ((with_reducible refine gate_dst (N := 6) rfl ?_); (try (refine gate_guard (by rfl) ?_; dsimp only)); refine box_event ?hg (N := 6) ?hd (cs := #[.int .i64 0, .int .i64 0, .int .i64 0, .bool false]) (t := 123) ?hr ?_; (case hd => rfl); (case hg => rfl); (case hr => exact tG); intro gb256 hg w58 hbox hb; have n0_ := Aside0.mk (blk_below (g := gb240) (o := .cells #[.int .i64 a0_0, .int .i64 a0_1, .slice (some ad243) l0_2.length c0_2] 76 (0, 0)) (tK BK240) hb); have n1_ := Aside0.mk (blk_below (g := gb244) (o := .cells #[.int .i64 ((rd_T123 l0_2 x26_2).f0), .int .i64 ((rd_T123 l0_2 x26_2).f1), .int .i64 ((rd_T123 l0_2 x26_2).f2), .bool ((rd_T123 l0_2 x26_2).f3)] 123 (0, 0)) (tK BK244) hb); have n2_ := Aside0.mk (below_step tB hb); have n3_ := Aside0.mk (hbox); have n4_ := Aside0.mk ((by rw [hg]; exact (below_size tB) : w.heap.size ≤ gb256)); have n5_ := Aside0.mk ((by rw [hg]; exact (below_size tB) : w.heap.size ≤ gb256)); have n6_ := Aside0.mk ((by rw [hg]; exact Nat.ne_of_lt (blk_lt (g := gb240) (o := .cells #[.int .i64 a0_0, .int .i64 a0_1, .slice (some ad243) l0_2.length c0_2] 76 (0, 0)) (tK BK240)) : gb240 ≠ gb256)); have n7_ := Aside0.mk ((by rw [hg]; exact Nat.ne_of_gt (blk_lt (g := gb240) (o := .cells #[.int .i64 a0_0, .int .i64 a0_1, .slice (some ad243) l0_2.length c0_2] 76 (0, 0)) (tK BK240)) : gb256 ≠ gb240)); have n8_ := Aside0.mk ((by rw [hg]; exact Nat.ne_of_lt (blk_lt (g := gb244) (o := .cells #[.int .i64 ((rd_T123 l0_2 x26_2).f0), .int .i64 ((rd_T123 l0_2 x26_2).f1), .int .i64 ((rd_T123 l0_2 x26_2).f2), .bool ((rd_T123 l0_2 x26_2).f3)] 123 (0, 0)) (tK BK244)) : gb244 ≠ gb256)); have n9_ := Aside0.mk ((by rw [hg]; exact Nat.ne_of_gt (blk_lt (g := gb244) (o := .cells #[.int .i64 ((rd_T123 l0_2 x26_2).f0), .int .i64 ((rd_T123 l0_2 x26_2).f1), .int .i64 ((rd_T123 l0_2 x26_2).f2), .bool ((rd_T123 l0_2 x26_2).f3)] 123 (0, 0)) (tK BK244)) : gb256 ≠ gb244)); clear BK240; clear BK244; clear HB; have BK240 := n0_; have BK244 := n1_; have HB := n2_; have BK256 := n3_; have GW256 := n4_; have GE256 := n5_; have NB240_256 := n6_; have NB256_240 := n7_; have NB244_256 := n8_; have NB256_244 := n9_; clear n0_ n1_ n2_ n3_ n4_ n5_ n6_ n7_ n8_ n9_; clear hb hbox hg; have hnb59 := NB256_240.out; have hnc59 := NB240_256.out; have hnb60 := NB256_244.out; have hnc60 := NB244_256.out; obtain ⟨hcz61_0, hcz61_1, hcz61_2, hcz61_3, hfz61_0, hfz61_1, hfz61_2, hfz61_3⟩ := bc4 BK256.out; have hnb62 := NB244_240.out; have hnc62 := NB240_244.out; obtain ⟨hcz63_0, hcz63_1, hcz63_2, hcz63_3, hfz63_0, hfz63_1, hfz63_2, hfz63_3⟩ := bc4 BK244.out))
                    repeat (go_quiet (first | ((with_reducible refine gate_dst (N := 6) rfl ?_); (try (refine gate_guard (by rfl) ?_; dsimp only)); refine box_event ?hg (N := 6) ?hd (cs := #[.int .i64 0, .int .i64 0, .int .i64 0, .bool false]) (t := 123) ?hr ?_; (case hd => rfl); (case hg => rfl); (case hr => exact tG); intro gb256 hg w58 hbox hb; have n0_ := Aside0.mk (blk_below (g := gb240) (o := .cells #[.int .i64 a0_0, .int .i64 a0_1, .slice (some ad243) l0_2.length c0_2] 76 (0, 0)) (tK BK240) hb); have n1_ := Aside0.mk (blk_below (g := gb244) (o := .cells #[.int .i64 ((rd_T123 l0_2 x26_2).f0), .int .i64 ((rd_T123 l0_2 x26_2).f1), .int .i64 ((rd_T123 l0_2 x26_2).f2), .bool ((rd_T123 l0_2 x26_2).f3)] 123 (0, 0)) (tK BK244) hb); have n2_ := Aside0.mk (below_step tB hb); have n3_ := Aside0.mk (hbox); have n4_ := Aside0.mk ((by rw [hg]; exact (below_size tB) : w.heap.size ≤ gb256)); have n5_ := Aside0.mk ((by rw [hg]; exact (below_size tB) : w.heap.size ≤ gb256)); have n6_ := Aside0.mk ((by rw [hg]; exact Nat.ne_of_lt (blk_lt (g := gb240) (o := .cells #[.int .i64 a0_0, .int .i64 a0_1, .slice (some ad243) l0_2.length c0_2] 76 (0, 0)) (tK BK240)) : gb240 ≠ gb256)); have n7_ := Aside0.mk ((by rw [hg]; exact Nat.ne_of_gt (blk_lt (g := gb240) (o := .cells #[.int .i64 a0_0, .int .i64 a0_1, .slice (some ad243) l0_2.length c0_2] 76 (0, 0)) (tK BK240)) : gb256 ≠ gb240)); have n8_ := Aside0.mk ((by rw [hg]; exact Nat.ne_of_lt (blk_lt (g := gb244) (o := .cells #[.int .i64 ((rd_T123 l0_2 x26_2).f0), .int .i64 ((rd_T123 l0_2 x26_2).f1), .int .i64 ((rd_T123 l0_2 x26_2).f2), .bool ((rd_T123 l0_2 x26_2).f3)] 123 (0, 0)) (tK BK244)) : gb244 ≠ gb256)); have n9_ := Aside0.mk ((by rw [hg]; exact Nat.ne_of_gt (blk_lt (g := gb244) (o := .cells #[.int .i64 ((rd_T123 l0_2 x26_2).f0), .int .i64 ((rd_T123 l0_2 x26_2).f1), .int .i64 ((rd_T123 l0_2 x26_2).f2), .bool ((rd_T123 l0_2 x26_2).f3)] 123 (0, 0)) (tK BK244)) : gb256 ≠ gb244)); clear BK240; clear BK244; clear HB; have BK240 := n0_; have BK244 := n1_; have HB := n2_; have BK256 := n3_; have GW256 := n4_; have GE256 := n5_; have NB240_256 := n6_; have NB256_240 := n7_; have NB244_256 := n8_; have NB256_244 := n9_; clear n0_ n1_ n2_ n3_ n4_ n5_ n6_ n7_ n8_ n9_; clear hb hbox hg; have hnb59 := NB256_240.out; have hnc59 := NB240_256.out; have hnb60 := NB256_244.out; have hnc60 := NB244_256.out; obtain ⟨hcz61_0, hcz61_1, hcz61_2, hcz61_3, hfz61_0, hfz61_1, hfz61_2, hfz61_3⟩ := bc4 BK256.out; have hnb62 := NB244_240.out; have hnc62 := NB240_244.out; obtain ⟨hcz63_0, hcz63_1, hcz63_2, hcz63_3, hfz63_0, hfz63_1, hfz63_2, hfz63_3⟩ := bc4 BK244.out)); try go_wp2_with (first | ((with_reducible refine gate_dst (N := 6) rfl ?_); (try (refine gate_guard (by rfl) ?_; dsimp only)); refine box_event ?hg (N := 6) ?hd (cs := #[.int .i64 0, .int .i64 0, .int .i64 0, .bool false]) (t := 123) ?hr ?_; (case hd => rfl); (case hg => rfl); (case hr => exact tG); intro gb256 hg w58 hbox hb; have n0_ := Aside0.mk (blk_below (g := gb240) (o := .cells #[.int .i64 a0_0, .int .i64 a0_1, .slice (some ad243) l0_2.length c0_2] 76 (0, 0)) (tK BK240) hb); have n1_ := Aside0.mk (blk_below (g := gb244) (o := .cells #[.int .i64 ((rd_T123 l0_2 x26_2).f0), .int .i64 ((rd_T123 l0_2 x26_2).f1), .int .i64 ((rd_T123 l0_2 x26_2).f2), .bool ((rd_T123 l0_2 x26_2).f3)] 123 (0, 0)) (tK BK244) hb); have n2_ := Aside0.mk (below_step tB hb); have n3_ := Aside0.mk (hbox); have n4_ := Aside0.mk ((by rw [hg]; exact (below_size tB) : w.heap.size ≤ gb256)); have n5_ := Aside0.mk ((by rw [hg]; exact (below_size tB) : w.heap.size ≤ gb256)); have n6_ := Aside0.mk ((by rw [hg]; exact Nat.ne_of_lt (blk_lt (g := gb240) (o := .cells #[.int .i64 a0_0, .int .i64 a0_1, .slice (some ad243) l0_2.length c0_2] 76 (0, 0)) (tK BK240)) : gb240 ≠ gb256)); have n7_ := Aside0.mk ((by rw [hg]; exact Nat.ne_of_gt (blk_lt (g := gb240) (o := .cells #[.int .i64 a0_0, .int .i64 a0_1, .slice (some ad243) l0_2.length c0_2] 76 (0, 0)) (tK BK240)) : gb256 ≠ gb240)); have n8_ := Aside0.mk ((by rw [hg]; exact Nat.ne_of_lt (blk_lt (g := gb244) (o := .cells #[.int .i64 ((rd_T123 l0_2 x26_2).f0), .int .i64 ((rd_T123 l0_2 x26_2).f1), .int .i64 ((rd_T123 l0_2 x26_2).f2), .bool ((rd_T123 l0_2 x26_2).f3)] 123 (0, 0)) (tK BK244)) : gb244 ≠ gb256)); have n9_ := Aside0.mk ((by rw [hg]; exact Nat.ne_of_gt (blk_lt (g := gb244) (o := .cells #[.int .i64 ((rd_T123 l0_2 x26_2).f0), .int .i64 ((rd_T123 l0_2 x26_2).f1), .int .i64 ((rd_T123 l0_2 x26_2).f2), .bool ((rd_T123 l0_2 x26_2).f3)] 123 (0, 0)) (tK BK244)) : gb256 ≠ gb244)); clear BK240; clear BK244; clear HB; have BK240 := n0_; have BK244 := n1_; have HB := n2_; have BK256 := n3_; have GW256 := n4_; have GE256 := n5_; have NB240_256 := n6_; have NB256_240 := n7_; have NB244_256 := n8_; have NB256_244 := n9_; clear n0_ n1_ n2_ n3_ n4_ n5_ n6_ n7_ n8_ n9_; clear hb hbox hg; have hnb59 := NB256_240.out; have hnc59 := NB240_256.out; have hnb60 := NB256_244.out; have hnc60 := NB244_256.out; obtain ⟨hcz61_0, hcz61_1, hcz61_2, hcz61_3, hfz61_0, hfz61_1, hfz61_2, hfz61_3⟩ := bc4 BK256.out; have hnb62 := NB244_240.out; have hnc62 := NB240_244.out; obtain ⟨hcz63_0, hcz63_1, hcz63_2, hcz63_3, hfz63_0, hfz63_1, hfz63_2, hfz63_3⟩ := bc4 BK244.out)))
                    go_ret
                    exact ⟨tE, tB⟩
                   ·rw [if_neg c57] at H
                    have c57b0 : (((rd_T123 y251 x68_4).f1) == ((rd_T123 l0_2 x26_2).f1)) = false := beq_eq_false_iff_ne.mpr c57
                    have c57b1 : (((rd_T123 y251 x68_4).f1) != ((rd_T123 l0_2 x26_2).f1)) = true := bne_iff_ne.mpr c57
                    have H' := Aside0.mk H
                    clear H
                    have p255 : 0 ≤ (x68_4 : Int) := of_decide_eq_true tA
                    have q255 : x68_4 < (y251.length : Int) := of_decide_eq_true tA
                    obtain ⟨ad255, e255, hx255_0, hx255_1, hx255_2, hx255_3⟩ := at_T123 HR254.out x68_4 p255 q255
                    obtain rfl : ad243 = ad255 := (by injection e255)
                    replace hx255_0 := hbc HB hx255_0
                    replace hx255_1 := hbc HB hx255_1
                    replace hx255_2 := hbc HB hx255_2
                    replace hx255_3 := hbc HB hx255_3
                    replace p255 := eq_true p255
                    replace q255 := eq_true q255
                    go_wp2_with (first | ((with_reducible refine gate_dst (N := 6) rfl ?_); (try (refine gate_guard (by rfl) ?_; dsimp only)); refine box_event ?hg (N := 6) ?hd (cs := #[.int .i64 0, .int .i64 0, .int .i64 0, .bool false]) (t := 123) ?hr ?_; (case hd => rfl); (case hg => rfl); (case hr => exact tG); intro gb256 hg w64 hbox hb; have n0_ := Aside0.mk (blk_below (g := gb240) (o := .cells #[.int .i64 a0_0, .int .i64 a0_1, .slice (some ad243) l0_2.length c0_2] 76 (0, 0)) (tK BK240) hb); have n1_ := Aside0.mk (blk_below (g := gb244) (o := .cells #[.int .i64 ((rd_T123 l0_2 x26_2).f0), .int .i64 ((rd_T123 l0_2 x26_2).f1), .int .i64 ((rd_T123 l0_2 x26_2).f2), .bool ((rd_T123 l0_2 x26_2).f3)] 123 (0, 0)) (tK BK244) hb); have n2_ := Aside0.mk (below_step tB hb); have n3_ := Aside0.mk (hbox); have n4_ := Aside0.mk ((by rw [hg]; exact (below_size tB) : w.heap.size ≤ gb256)); have n5_ := Aside0.mk ((by rw [hg]; exact (below_size tB) : w.heap.size ≤ gb256)); have n6_ := Aside0.mk ((by rw [hg]; exact Nat.ne_of_lt (blk_lt (g := gb240) (o := .cells #[.int .i64 a0_0, .int .i64 a0_1, .slice (some ad243) l0_2.length c0_2] 76 (0, 0)) (tK BK240)) : gb240 ≠ gb256)); have n7_ := Aside0.mk ((by rw [hg]; exact Nat.ne_of_gt (blk_lt (g := gb240) (o := .cells #[.int .i64 a0_0, .int .i64 a0_1, .slice (some ad243) l0_2.length c0_2] 76 (0, 0)) (tK BK240)) : gb256 ≠ gb240)); have n8_ := Aside0.mk ((by rw [hg]; exact Nat.ne_of_lt (blk_lt (g := gb244) (o := .cells #[.int .i64 ((rd_T123 l0_2 x26_2).f0), .int .i64 ((rd_T123 l0_2 x26_2).f1), .int .i64 ((rd_T123 l0_2 x26_2).f2), .bool ((rd_T123 l0_2 x26_2).f3)] 123 (0, 0)) (tK BK244)) : gb244 ≠ gb256)); have n9_ := Aside0.mk ((by rw [hg]; exact Nat.ne_of_gt (blk_lt (g := gb244) (o := .cells #[.int .i64 ((rd_T123 l0_2 x26_2).f0), .int .i64 ((rd_T123 l0_2 x26_2).f1), .int .i64 ((rd_T123 l0_2 x26_2).f2), .bool ((rd_T123 l0_2 x26_2).f3)] 123 (0, 0)) (tK BK244)) : gb256 ≠ gb244)); clear BK240; clear BK244; clear HB; have BK240 := n0_; have BK244 := n1_; have HB := n2_; have BK256 := n3_; have GW256 := n4_; have GE256 := n5_; have NB240_256 := n6_; have NB256_240 := n7_; have NB244_256 := n8_; have NB256_244 := n9_; clear n0_ n1_ n2_ n3_ n4_ n5_ n6_ n7_ n8_ n9_; clear hb hbox hg; have hnb65 := NB256_240.out; have hnc65 := NB240_256.out; have hnb66 := NB256_244.out; have hnc66 := NB244_256.out; obtain ⟨hcz67_0, hcz67_1, hcz67_2, hcz67_3, hfz67_0, hfz67_1, hfz67_2, hfz67_3⟩ := bc4 BK256.out; have hnb68 := NB244_240.out; have hnc68 := NB240_244.out; obtain ⟨hcz69_0, hcz69_1, hcz69_2, hcz69_3, hfz69_0, hfz69_1, hfz69_2, hfz69_3⟩ := bc4 BK244.out))
                    repeat (go_quiet (first | ((with_reducible refine gate_dst (N := 6) rfl ?_); (try (refine gate_guard (by rfl) ?_; dsimp only)); refine box_event ?hg (N := 6) ?hd (cs := #[.int .i64 0, .int .i64 0, .int .i64 0, .bool false]) (t := 123) ?hr ?_; (case hd => rfl); (case hg => rfl); (case hr => exact tG); intro gb256 hg w64 hbox hb; have n0_ := Aside0.mk (blk_below (g := gb240) (o := .cells #[.int .i64 a0_0, .int .i64 a0_1, .slice (some ad243) l0_2.length c0_2] 76 (0, 0)) (tK BK240) hb); have n1_ := Aside0.mk (blk_below (g := gb244) (o := .cells #[.int .i64 ((rd_T123 l0_2 x26_2).f0), .int .i64 ((rd_T123 l0_2 x26_2).f1), .int .i64 ((rd_T123 l0_2 x26_2).f2), .bool ((rd_T123 l0_2 x26_2).f3)] 123 (0, 0)) (tK BK244) hb); have n2_ := Aside0.mk (below_step tB hb); have n3_ := Aside0.mk (hbox); have n4_ := Aside0.mk ((by rw [hg]; exact (below_size tB) : w.heap.size ≤ gb256)); have n5_ := Aside0.mk ((by rw [hg]; exact (below_size tB) : w.heap.size ≤ gb256)); have n6_ := Aside0.mk ((by rw [hg]; exact Nat.ne_of_lt (blk_lt (g := gb240) (o := .cells #[.int .i64 a0_0, .int .i64 a0_1, .slice (some ad243) l0_2.length c0_2] 76 (0, 0)) (tK BK240)) : gb240 ≠ gb256)); have n7_ := Aside0.mk ((by rw [hg]; exact Nat.ne_of_gt (blk_lt (g := gb240) (o := .cells #[.int .i64 a0_0, .int .i64 a0_1, .slice (some ad243) l0_2.length c0_2] 76 (0, 0)) (tK BK240)) : gb256 ≠ gb240)); have n8_ := Aside0.mk ((by rw [hg]; exact Nat.ne_of_lt (blk_lt (g := gb244) (o := .cells #[.int .i64 ((rd_T123 l0_2 x26_2).f0), .int .i64 ((rd_T123 l0_2 x26_2).f1), .int .i64 ((rd_T123 l0_2 x26_2).f2), .bool ((rd_T123 l0_2 x26_2).f3)] 123 (0, 0)) (tK BK244)) : gb244 ≠ gb256)); have n9_ := Aside0.mk ((by rw [hg]; exact Nat.ne_of_gt (blk_lt (g := gb244) (o := .cells #[.int .i64 ((rd_T123 l0_2 x26_2).f0), .int .i64 ((rd_T123 l0_2 x26_2).f1), .int .i64 ((rd_T123 l0_2 x26_2).f2), .bool ((rd_T123 l0_2 x26_2).f3)] 123 (0, 0)) (tK BK244)) : gb256 ≠ gb244)); clear BK240; clear BK244; clear HB; have BK240 := n0_; have BK244 := n1_; have HB := n2_; have BK256 := n3_; have GW256 := n4_; have GE256 := n5_; have NB240_256 := n6_; have NB256_240 := n7_; have NB244_256 := n8_; have NB256_244 := n9_; clear n0_ n1_ n2_ n3_ n4_ n5_ n6_ n7_ n8_ n9_; clear hb hbox hg; have hnb65 := NB256_240.out; have hnc65 := NB240_256.out; have hnb66 := NB256_244.out; have hnc66 := NB244_256.out; obtain ⟨hcz67_0, hcz67_1, hcz67_2, hcz67_3, hfz67_0, hfz67_1, hfz67_2, hfz67_3⟩ := bc4 BK256.out; have hnb68 := NB244_240.out; have hnc68 := NB240_244.out; obtain ⟨hcz69_0, hcz69_1, hcz69_2, hcz69_3, hfz69_0, hfz69_1, hfz69_2, hfz69_3⟩ := bc4 BK244.out)); try go_wp2_with (first | ((with_reducible refine gate_dst (N := 6) rfl ?_); (try (refine gate_guard (by rfl) ?_; dsimp only)); refine box_event ?hg (N := 6) ?hd (cs := #[.int .i64 0, .int .i64 0, .int .i64 0, .bool false]) (t := 123) ?hr ?_; (case hd => rfl); (case hg => rfl); (case hr => exact tG); intro gb256 hg w64 hbox hb; have n0_ := Aside0.mk (blk_below (g := gb240) (o := .cells #[.int .i64 a0_0, .int .i64 a0_1, .slice (some ad243) l0_2.length c0_2] 76 (0, 0)) (tK BK240) hb); have n1_ := Aside0.mk (blk_below (g := gb244) (o := .cells #[.int .i64 ((rd_T123 l0_2 x26_2).f0), .int .i64 ((rd_T123 l0_2 x26_2).f1), .int .i64 ((rd_T123 l0_2 x26_2).f2), .bool ((rd_T123 l0_2 x26_2).f3)] 123 (0, 0)) (tK BK244) hb); have n2_ := Aside0.mk (below_step tB hb); have n3_ := Aside0.mk (hbox); have n4_ := Aside0.mk ((by rw [hg]; exact (below_size tB) : w.heap.size ≤ gb256)); have n5_ := Aside0.mk ((by rw [hg]; exact (below_size tB) : w.heap.size ≤ gb256)); have n6_ := Aside0.mk ((by rw [hg]; exact Nat.ne_of_lt (blk_lt (g := gb240) (o := .cells #[.int .i64 a0_0, .int .i64 a0_1, .slice (some ad243) l0_2.length c0_2] 76 (0, 0)) (tK BK240)) : gb240 ≠ gb256)); have n7_ := Aside0.mk ((by rw [hg]; exact Nat.ne_of_gt (blk_lt (g := gb240) (o := .cells #[.int .i64 a0_0, .int .i64 a0_1, .slice (some ad243) l0_2.length c0_2] 76 (0, 0)) (tK BK240)) : gb256 ≠ gb240)); have n8_ := Aside0.mk ((by rw [hg]; exact Nat.ne_of_lt (blk_lt (g := gb244) (o := .cells #[.int .i64 ((rd_T123 l0_2 x26_2).f0), .int .i64 ((rd_T123 l0_2 x26_2).f1), .int .i64 ((rd_T123 l0_2 x26_2).f2), .bool ((rd_T123 l0_2 x26_2).f3)] 123 (0, 0)) (tK BK244)) : gb244 ≠ gb256)); have n9_ := Aside0.mk ((by rw [hg]; exact Nat.ne_of_gt (blk_lt (g := gb244) (o := .cells #[.int .i64 ((rd_T123 l0_2 x26_2).f0), .int .i64 ((rd_T123 l0_2 x26_2).f1), .int .i64 ((rd_T123 l0_2 x26_2).f2), .bool ((rd_T123 l0_2 x26_2).f3)] 123 (0, 0)) (tK BK244)) : gb256 ≠ gb244)); clear BK240; clear BK244; clear HB; have BK240 := n0_; have BK244 := n1_; have HB := n2_; have BK256 := n3_; have GW256 := n4_; have GE256 := n5_; have NB240_256 := n6_; have NB256_240 := n7_; have NB244_256 := n8_; have NB256_244 := n9_; clear n0_ n1_ n2_ n3_ n4_ n5_ n6_ n7_ n8_ n9_; clear hb hbox hg; have hnb65 := NB256_240.out; have hnc65 := NB240_256.out; have hnb66 := NB256_244.out; have hnc66 := NB244_256.out; obtain ⟨hcz67_0, hcz67_1, hcz67_2, hcz67_3, hfz67_0, hfz67_1, hfz67_2, hfz67_3⟩ := bc4 BK256.out; have hnb68 := NB244_240.out; have hnc68 := NB240_244.out; obtain ⟨hcz69_0, hcz69_1, hcz69_2, hcz69_3, hfz69_0, hfz69_1, hfz69_2, hfz69_3⟩ := bc4 BK244.out)))
                    go_roundg k4
                    case measure => have := HJ1.out; have := HK2.out; have := HJ15.out; have := HK4.out; omega
                    case rel => exact ⟨(wrap64 (x68_4 + 1)), tS, H', ⟨by have := HJ1.out; have := HK2.out; have := HJ15.out; have := HK4.out; omega⟩, ⟨by (with_reducible repeat (first | refine blk_drewN ?_ _ | refine blk_drew ?_ | refine blk_alloc ?_ _)); refine blk_far ?_ NB240_256.out _; (with_reducible repeat (first | refine blk_drewN ?_ _ | refine blk_drew ?_ | refine blk_alloc ?_ _)); refine blk_far ?_ NB240_256.out _; (with_reducible repeat (first | refine blk_drewN ?_ _ | refine blk_drew ?_ | refine blk_alloc ?_ _)); refine blk_far ?_ NB240_256.out _; (with_reducible repeat (first | refine blk_drewN ?_ _ | refine blk_drew ?_ | refine blk_alloc ?_ _)); refine blk_far ?_ NB240_256.out _; (with_reducible repeat (first | refine blk_drewN ?_ _ | refine blk_drew ?_ | refine blk_alloc ?_ _)); exact BK240.out⟩, ⟨by (with_reducible repeat (first | refine blk_drewN ?_ _ | refine blk_drew ?_ | refine blk_alloc ?_ _)); refine blk_far ?_ NB244_256.out _; (with_reducible repeat (first | refine blk_drewN ?_ _ | refine blk_drew ?_ | refine blk_alloc ?_ _)); refine blk_far ?_ NB244_256.out _; (with_reducible repeat (first | refine blk_drewN ?_ _ | refine blk_drew ?_ | refine blk_alloc ?_ _)); refine blk_far ?_ NB244_256.out _; (with_reducible repeat (first | refine blk_drewN ?_ _ | refine blk_drew ?_ | refine blk_alloc ?_ _)); refine blk_far ?_ NB244_256.out _; (with_reducible repeat (first | refine blk_drewN ?_ _ | refine blk_drew ?_ | refine blk_alloc ?_ _)); exact BK244.out⟩, ⟨tB⟩⟩
                  ·rw [if_neg c56] at H
                   exact absurd H (by simp)
                 ·rw [if_neg c55] at H
                  exact absurd H (by simp)
                ·rw [if_neg c54] at H
                 have c54b0 : decide (x68_4 < (y251.length : Int)) = false := decide_eq_false c54
                 clear c54
                 have H' := Aside0.mk H
                 clear H
                 go_wp2
                 repeat (go_quiet (fail); try go_wp2)
                 go_roundg k4
                 case measure => have := HJ1.out; have := HK2.out; have := HJ15.out; have := HK4.out; omega
                 case rel => exact ⟨(wrap64 (x26_2 + 1)), tS, H', ⟨by have := HJ1.out; have := HK2.out; have := HJ15.out; have := HK4.out; omega⟩, ⟨tK BK240⟩, ⟨tB⟩⟩
             ·rw [if_neg c50] at H
              exact absurd H (by simp)
            ·rw [if_neg c49] at H
             exact absurd H (by simp)
        ·rw [if_neg c15] at H
         exact absurd H (by simp)
       ·rw [if_neg c14] at H
        exact absurd H (by simp)
      ·rw [if_neg c13] at H
       have c13b0 : decide (x26_2 < (l0_2.length : Int)) = false := decide_eq_false c13
       clear c13
       obtain rfl := Option.some.inj H
       go_wp2
       repeat (go_quiet (fail); try go_wp2)
       go_ret
       exact ⟨tE, tB⟩

end Go.Proofs.Ytjggdakbphjomaa.ZFnExactSplitAccount
