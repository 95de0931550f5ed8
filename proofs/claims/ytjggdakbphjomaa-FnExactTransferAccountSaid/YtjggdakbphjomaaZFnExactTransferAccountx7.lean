/- The machine side: for each Go function a Lean function and the contract that the Go code answers as it does; printed by program (wip/tmpl/pprint.sh). -/
import Derived.Test.YtjggdakbphjomaaZFnExactTransferAccountx0
import Derived.Test.YtjggdakbphjomaaZFnExactTransferAccountx5
import Derived.Test.YtjggdakbphjomaaZFnExactTransferAccountx6
namespace Go.Proofs.Ytjggdakbphjomaa.ZFnExactTransferAccount
open Go.RowKit Go.Proofs.YtjggdakbphjomaaW.PrintWords Go.Proofs.YtjggdakbphjomaaW.PrintLast Go.Proofs.YtjggdakbphjomaaW.PrintMore
attribute [local go_sem] max2_int min2_int max_two min_two max_three min_three max_four min_four   -- for this text's walks alone
set_option linter.unusedVariables false
set_option linter.unusedSimpArgs false

/-! ### impl_AddCredential: function 107 -/
mutual
def impl_AddCredential.j1 : Nat → Int → Int → Int → Int → Int → List (S123) → Option (Int × Int × (List (S123)) × Bool)
 | 0, _, _, _, _, _, _ => none
 | k + 1, x1, x2, x8, x247000, x247001, x247002 => (impl_copyAccount.f x247000 x247001 x247002).bind fun bt255 => ((some (([] : List (S123)) : List (S123))).bind fun y261 => (if 0 ≤ x8 then (if x8 ≤ (x247002.length : Int) then ((some (x247002.take (x8 : Int).toNat : List (S123))).bind fun y264 => (if y261.length + y264.length < 4398046511104 then ((some (y261 ++ y264 : List (S123))).bind fun y268 => ((some (([(⟨x1, x2, 0, false⟩ : S123)] : List (S123)) : List (S123))).bind fun y271 => (if y268.length + y271.length < 4398046511104 then ((some (y268 ++ y271 : List (S123))).bind fun y274 => ((some (x247002.drop (x8 : Int).toNat : List (S123))).bind fun y277 => (if y274.length + y277.length < 4398046511104 then ((some (y274 ++ y277 : List (S123))).bind fun y281 => ((impl_IsValidAccount.f k bt255.1 bt255.2.1 y281).bind fun t284 => (if t284 = true then (some (bt255.1, bt255.2.1, y281, true)) else ((impl_copyAccount.f x247000 x247001 x247002).bind fun bt285 => (some (bt285.1, bt285.2.1, bt285.2.2, false)))))) else (none)))) else (none)))) else (none))) else (none)) else (none)))
def impl_AddCredential.l0 : Nat → Int → Int → Int → Int → Int → List (S123) → Option (Int × Int × (List (S123)) × Bool)
 | 0, _, _, _, _, _, _ => none
 | k + 1, x1, x2, x8, x247000, x247001, x247002 => if x8 < (x247002.length : Int) then (if 0 ≤ x8 then (if ((rd_T123 x247002 x8).f0) < x1 then (impl_AddCredential.l0 k x1 x2 (wrap64 (x8 + 1)) x247000 x247001 x247002) else (impl_AddCredential.j1 k x1 x2 x8 x247000 x247001 x247002)) else (none)) else (impl_AddCredential.j1 k x1 x2 x8 x247000 x247001 x247002)
end
def impl_AddCredential.f (k : Nat) (a0_0 : Int) (a0_1 : Int) (l0_2 : List (S123)) (a1 : Int) (a2 : Int) : Option (Int × Int × (List (S123)) × Bool) := (impl_IsValidAccount.f k a0_0 a0_1 l0_2).bind fun t248 => (if t248 = true then (impl_AddCredential.l0 k a1 a2 0 a0_0 a0_1 l0_2) else ((impl_copyAccount.f a0_0 a0_1 l0_2).bind fun bt249 => (some (bt249.1, bt249.2.1, bt249.2.2, false))))
theorem impl_AddCredential.mono_l : ∀ k, (∀ y0 y1 y2 y3 y4 y5, LeO (impl_AddCredential.j1 k y0 y1 y2 y3 y4 y5) (impl_AddCredential.j1 (k + 1) y0 y1 y2 y3 y4 y5)) ∧ (∀ y0 y1 y2 y3 y4 y5, LeO (impl_AddCredential.l0 k y0 y1 y2 y3 y4 y5) (impl_AddCredential.l0 (k + 1) y0 y1 y2 y3 y4 y5))
 | 0 => ⟨fun _ _ _ _ _ _ r h => by simp [impl_AddCredential.j1] at h, fun _ _ _ _ _ _ r h => by simp [impl_AddCredential.l0] at h⟩
 | k + 1 => by
  obtain ⟨ih0, ih1⟩ := impl_AddCredential.mono_l k
  refine ⟨?_, ?_⟩
  ·intro y0 y1 y2 y3 y4 y5
   unfold impl_AddCredential.j1
   repeat' first
   | (with_reducible exact ih0 _ _ _ _ _ _)
   | (with_reducible exact ih1 _ _ _ _ _ _)
   | (with_reducible exact impl_IsValidAccount.mono _ _ _ _)
   | (with_reducible exact LeO.refl _)
   | (with_reducible exact LeO.none _)
   | (with_reducible refine LeO.ite ?_ ?_)
   | (with_reducible refine LeO.bind ?_ (fun _ => ?_))
   | exact ih0 _ _ _ _ _ _
   | exact ih1 _ _ _ _ _ _
   | exact impl_IsValidAccount.mono _ _ _ _
   | exact LeO.none _
   | refine LeO.ite ?_ ?_
   | refine LeO.bind ?_ (fun _ => ?_)
  ·intro y0 y1 y2 y3 y4 y5
   unfold impl_AddCredential.l0
   repeat' first
   | (with_reducible exact ih0 _ _ _ _ _ _)
   | (with_reducible exact ih1 _ _ _ _ _ _)
   | (with_reducible exact impl_IsValidAccount.mono _ _ _ _)
   | (with_reducible exact LeO.refl _)
   | (with_reducible exact LeO.none _)
   | (with_reducible refine LeO.ite ?_ ?_)
   | (with_reducible refine LeO.bind ?_ (fun _ => ?_))
   | exact ih0 _ _ _ _ _ _
   | exact ih1 _ _ _ _ _ _
   | exact impl_IsValidAccount.mono _ _ _ _
   | exact LeO.none _
   | refine LeO.ite ?_ ?_
   | refine LeO.bind ?_ (fun _ => ?_)
theorem impl_AddCredential.mono : ∀ a0 a1 a2 a3 a4 k, LeO (impl_AddCredential.f k a0 a1 a2 a3 a4) (impl_AddCredential.f (k + 1) a0 a1 a2 a3 a4) := by
 intro a0 a1 a2 a3 a4 k
 obtain ⟨ih0, ih1⟩ := impl_AddCredential.mono_l k
 unfold impl_AddCredential.f
 repeat' first
   | (with_reducible exact ih0 _ _ _ _ _ _)
   | (with_reducible exact ih1 _ _ _ _ _ _)
   | (with_reducible exact impl_IsValidAccount.mono _ _ _ _)
   | (with_reducible exact LeO.refl _)
   | (with_reducible exact LeO.none _)
   | (with_reducible refine LeO.ite ?_ ?_)
   | (with_reducible refine LeO.bind ?_ (fun _ => ?_))
   | exact ih0 _ _ _ _ _ _
   | exact ih1 _ _ _ _ _ _
   | exact impl_IsValidAccount.mono _ _ _ _
   | exact LeO.none _
   | refine LeO.ite ?_ ?_
   | refine LeO.bind ?_ (fun _ => ?_)
def impl_AddCredential.T7 : Bool × List (List Nat × List Nat) := (true, [([], []), ([], []), ([1], [1]), ([], []), ([2, 3], [2, 3]), ([0, 4], [0, 4]), ([], []), ([], []), ([6, 7], [6, 7]), ([8], [8]), ([5, 9, 5], [5, 9]), ([], []), ([11], [11]), ([], []), ([12, 13], [12, 13]), ([10, 14, 10], [10, 14]), ([0, 1, 2, 3, 4, 5, 6, 7, 8, 9, 10, 11, 12, 13, 14, 15], []), ([16, 15, 15, 0, 1, 2, 3, 4, 5, 6, 7, 8, 9, 10, 11, 12, 13, 14, 15], [15, 16])])
def impl_AddCredential.B7 : List Nat := [0, 0, 2, 0, 14, 31, 0, 0, 192, 448, 1023, 0, 2048, 0, 14336, 32767, 65535, 131071]
theorem impl_AddCredential.tab7 : rtab .any (opsOf Try.f107 7) = impl_AddCredential.T7 := by kernel_rfl
theorem impl_AddCredential.bits7 : waitsOk impl_AddCredential.T7.2 impl_AddCredential.B7 = true := by kernel_rfl
set_option maxHeartbeats 8000000 in
set_option maxRecDepth 100000 in
theorem impl_AddCredential.calls (k : Nat) (a0_0 : Int) (a0_1 : Int) (A0_2 : Option Addr) (c0_2 : Nat) (l0_2 : List (S123)) (a1 : Int) (a2 : Int) (r1 : Int) (r2 : Int) (r3 : List (S123)) (r4 : Bool) (w : World) (hr0_2 : Kd.C k123 w A0_2 l0_2.length l0_2) (hc0_2 : l0_2.length ≤ c0_2) (h : impl_AddCredential.f k a0_0 a0_1 l0_2 a1 a2 = some (r1, r2, r3, r4)) :
  Calls Try.prog 107 #[.agg #[.int .i64 a0_0, .int .i64 a0_1, .slice A0_2 l0_2.length c0_2], .int .i64 a1, .int .i64 a2] w fun e w' => ∃ v2_ : Value, e = .returned (.tuple #[.agg #[.int .i64 r1, .int .i64 r2, v2_], .bool r4]) ∧ Kd.R k123 123 w' w.heap.size (fun _ => True) v2_ r3 ∧ Below w.heap.size w w' := by
 have hu76 := Try.underlying76
 have hu123 := Try.underlying123
 have HR0_2 := Aside0.mk hr0_2
 have HC0_2 := Aside0.mk hc0_2
 clear hr0_2 hc0_2
 have HB := Aside0.mk (Below.refl w.heap.size w)
 have H : ((impl_IsValidAccount.f k a0_0 a0_1 l0_2).bind fun t248 => (if t248 = true then (impl_AddCredential.l0 k a1 a2 0 a0_0 a0_1 l0_2) else ((impl_copyAccount.f a0_0 a0_1 l0_2).bind fun bt249 => (some (bt249.1, bt249.2.1, bt249.2.2, false))))) = some (r1, r2, r3, r4) := h
 clear h
 replace H := Option.bind_eq_some_iff.mp H
 obtain ⟨t248, A40, H⟩ := H
 replace H : (if t248 = true then (impl_AddCredential.l0 k a1 a2 0 a0_0 a0_1 l0_2) else ((impl_copyAccount.f a0_0 a0_1 l0_2).bind fun bt249 => (some (bt249.1, bt249.2.1, bt249.2.2, false)))) = some (r1, r2, r3, r4) := H
 have A4 := Aside0.mk A40
 clear A40
 by_cases c5 : t248 = true
 ·subst c5
  have H1 : (impl_AddCredential.l0 k a1 a2 0 a0_0 a0_1 l0_2) = some (r1, r2, r3, r4) := by rw [if_pos rfl] at H; exact H
  clear H
  have H := H1
  clear H1
  have HC6 := Aside0.mk H
  clear H
  go_enter Try.func107, Try.ntmps107
  go_upto_block 0 with (first | ((with_reducible refine gate_dst (N := 3) rfl ?_); refine box_event ?hg (N := 3) ?hd (cs := #[.int .i64 a0_0, .int .i64 a0_1, .slice A0_2 l0_2.length c0_2]) (t := 76) ?hr ?_; (case hd => rfl); (case hg => rfl); (case hr => exact tG); intro gb246 hg w7 hbox hb; have n0_ := Aside0.mk (below_step tB hb); have n1_ := Aside0.mk (hbox); have n2_ := Aside0.mk ((by rw [hg]; exact (below_size tB) : w.heap.size ≤ gb246)); have n3_ := Aside0.mk ((by rw [hg]; exact (below_size tB) : w.heap.size ≤ gb246)); clear HB; have HB := n0_; have BK246 := n1_; have GW246 := n2_; have GE246 := n3_; clear n0_ n1_ n2_ n3_; clear hb hbox hg) | ((with_reducible refine gate_dst (N := 6) rfl ?_); refine box_event ?hg (N := 6) ?hd (cs := #[.int .i64 0, .int .i64 0, .slice none 0 0]) (t := 76) ?hr ?_; (case hd => rfl); (case hg => rfl); (case hr => exact tG); intro gb247 hg w8 hbox hb; have n0_ := Aside0.mk (blk_below (g := gb246) (o := .cells #[.int .i64 a0_0, .int .i64 a0_1, .slice A0_2 l0_2.length c0_2] 76 (0, 0)) (tK BK246) hb); have n1_ := Aside0.mk (below_step tB hb); have n2_ := Aside0.mk (hbox); have n3_ := Aside0.mk ((by rw [hg]; exact (below_size tB) : w.heap.size ≤ gb247)); have n4_ := Aside0.mk ((by rw [hg]; exact (below_size tB) : w.heap.size ≤ gb247)); have n5_ := Aside0.mk ((by rw [hg]; exact Nat.ne_of_lt (blk_lt (g := gb246) (o := .cells #[.int .i64 a0_0, .int .i64 a0_1, .slice A0_2 l0_2.length c0_2] 76 (0, 0)) (tK BK246)) : gb246 ≠ gb247)); have n6_ := Aside0.mk ((by rw [hg]; exact Nat.ne_of_gt (blk_lt (g := gb246) (o := .cells #[.int .i64 a0_0, .int .i64 a0_1, .slice A0_2 l0_2.length c0_2] 76 (0, 0)) (tK BK246)) : gb247 ≠ gb246)); clear BK246; clear HB; have BK246 := n0_; have HB := n1_; have BK247 := n2_; have GW247 := n3_; have GE247 := n4_; have NB246_247 := n5_; have NB247_246 := n6_; clear n0_ n1_ n2_ n3_ n4_ n5_ n6_; clear hb hbox hg; have hnb9 := NB246_247.out; have hnc9 := NB247_246.out; obtain ⟨hcz10_0, hcz10_1, hcz10_2, hfz10_0, hfz10_1, hfz10_2⟩ := bc3 BK246.out) | ((with_reducible refine gate_callee (f := 105) rfl ?_); refine goesL_ (some 11) rfl rfl Try.func105 (by kernel_rfl) rfl #[.agg #[.int .i64 a0_0, .int .i64 a0_1, .slice A0_2 l0_2.length c0_2]] rfl tL ?_; (with_reducible refine (impl_IsValidAccount.calls k a0_0 a0_1 _ _ l0_2 true _ ?side1 ?side2 A4.out).mono ?_); (case side1 => repeat (first | exact (Kd.C_below HR0_2.out HB.out) | (with_reducible refine Kd.C_alloc ?_ _) | (with_reducible refine Kd.C_drewN ?_ _) | (with_reducible refine Kd.C_drew ?_))); (case side2 => exact HC0_2.out); rintro e w11 ⟨rfl, hb⟩; refine ⟨_, rfl, ?_⟩; have n0_ := Aside0.mk (blk_below (g := gb246) (o := .cells #[.int .i64 a0_0, .int .i64 a0_1, .slice A0_2 l0_2.length c0_2] 76 (0, 0)) (tK BK246) hb); have n1_ := Aside0.mk (blk_below (g := gb247) (o := .cells #[.int .i64 0, .int .i64 0, .slice none 0 0] 76 (0, 0)) (tK BK247) hb); have n2_ := Aside0.mk (below_step tB hb); clear BK246; clear BK247; clear HB; have BK246 := n0_; have BK247 := n1_; have HB := n2_; clear n0_ n1_ n2_; (try clear hb); (try clear hb2); (try clear hk); (try clear hi)))
  (try simp only [Act.put, List.setIfInBounds_toArray, List.set_cons_zero, List.set_cons_succ])
  go_cut [8] (fun v8 wc => ∃ (kq : Nat) (x8_5 : Int), v8 = .int .i64 x8_5 ∧ Aside0 (impl_AddCredential.j1 kq a1 a2 x8_5 a0_0 a0_1 l0_2 = some (r1, r2, r3, r4)) ∧ Aside0 (kq ≤ k) ∧ Aside0 (wc.heap[gb246]? = some (.cells #[.int .i64 a0_0, .int .i64 a0_1, (.slice A0_2 l0_2.length c0_2)] 76 (0, 0))) ∧ Aside0 (wc.heap[gb247]? = some (.cells #[.int .i64 0, .int .i64 0, (.slice none 0 0)] 76 (0, 0))) ∧ Aside0 (Below w.heap.size w wc))
  case first =>
   have H := HC6.out
   clear HC6
   have H' := Aside0.mk H
   clear H
   go_wp2
   go_loopg [8] k (fun kq v8 w' => ∃ (x8_1 : Int), v8 = .int .i64 x8_1 ∧ Aside0 (impl_AddCredential.l0 kq a1 a2 x8_1 a0_0 a0_1 l0_2 = some (r1, r2, r3, r4)) ∧ Aside0 (kq ≤ k) ∧ Aside0 (w'.heap[gb246]? = some (.cells #[.int .i64 a0_0, .int .i64 a0_1, (.slice A0_2 l0_2.length c0_2)] 76 (0, 0))) ∧ Aside0 (w'.heap[gb247]? = some (.cells #[.int .i64 0, .int .i64 0, (.slice none 0 0)] 76 (0, 0))) ∧ Aside0 (Below w.heap.size w w'))
   case atStart => exact ⟨(0), tS, H', ⟨Nat.le_refl _⟩, ⟨tK BK246⟩, ⟨tK BK247⟩, ⟨tB⟩⟩
   case round =>
    clear H'
    try clear c1
    try clear p2
    try clear c5
    try clear c9
    try clear c10
    try clear hcz10_0
    try clear hcz10_1
    try clear hcz10_2
    try clear hfz10_0
    try clear hfz10_1
    try clear hfz10_2
    obtain ⟨x8_1, rfl, HA, HK1, BK246, BK247, HB⟩ := hrel
    cases gk with
    | zero => exact absurd HA.out (by simp [impl_AddCredential.l0])
    | succ k1 =>
     have H := HA.out
     clear HA
     simp only [impl_AddCredential.l0] at H
     by_cases c12 : x8_1 < (l0_2.length : Int)
     ·rw [if_pos c12] at H
      have c12b0 : decide (x8_1 < (l0_2.length : Int)) = true := decide_eq_true c12
      clear c12
      (first | rw [c12b0] | (simp only [i64_w, i32_w]; rw [c12b0]) | skip)
      by_cases c13 : 0 ≤ x8_1
      ·rw [if_pos c13] at H
       have c13b0 : decide (0 ≤ x8_1) = true := decide_eq_true c13
       clear c13
       by_cases c14 : ((rd_T123 l0_2 x8_1).f0) < a1
       ·rw [if_pos c14] at H
        have c14b0 : decide (((rd_T123 l0_2 x8_1).f0) < a1) = true := decide_eq_true c14
        clear c14
        have H' := Aside0.mk H
        clear H
        have hnb15 := NB246_247.out
        have hnc15 := NB247_246.out
        obtain ⟨hcz16_0, hcz16_1, hcz16_2, hfz16_0, hfz16_1, hfz16_2⟩ := bc3 BK246.out
        have p254 : 0 ≤ (x8_1 : Int) := of_decide_eq_true tA
        have q254 : x8_1 < (l0_2.length : Int) := of_decide_eq_true tA
        obtain ⟨ad254, e254, hx254_0, hx254_1, hx254_2, hx254_3⟩ := at_T123 HR0_2.out x8_1 p254 q254
        cases e254
        replace hx254_0 := hbc HB hx254_0
        replace hx254_1 := hbc HB hx254_1
        replace hx254_2 := hbc HB hx254_2
        replace hx254_3 := hbc HB hx254_3
        replace p254 := eq_true p254
        replace q254 := eq_true q254
        go_wp2
        go_roundg k1
        case measure => have := HK1.out; omega
        case rel => exact ⟨(wrap64 (x8_1 + 1)), tS, H', ⟨tI⟩, ⟨tK BK246⟩, ⟨tK BK247⟩, ⟨tB⟩⟩
       ·rw [if_neg c14] at H
        have c14b0 : decide (((rd_T123 l0_2 x8_1).f0) < a1) = false := decide_eq_false c14
        clear c14
        have H' := Aside0.mk H
        clear H
        have hnb17 := NB246_247.out
        have hnc17 := NB247_246.out
        obtain ⟨hcz18_0, hcz18_1, hcz18_2, hfz18_0, hfz18_1, hfz18_2⟩ := bc3 BK246.out
        have p254 : 0 ≤ (x8_1 : Int) := of_decide_eq_true tA
        have q254 : x8_1 < (l0_2.length : Int) := of_decide_eq_true tA
        obtain ⟨ad254, e254, hx254_0, hx254_1, hx254_2, hx254_3⟩ := at_T123 HR0_2.out x8_1 p254 q254
        cases e254
        replace hx254_0 := hbc HB hx254_0
        replace hx254_1 := hbc HB hx254_1
        replace hx254_2 := hbc HB hx254_2
        replace hx254_3 := hbc HB hx254_3
        replace p254 := eq_true p254
        replace q254 := eq_true q254
        go_wp2
        go_meet
        case rel => exact ⟨_, (x8_1), tS, H', ⟨by have := HK1.out; first | omega | exact Nat.le_refl _⟩, ⟨tK BK246⟩, ⟨tK BK247⟩, ⟨tB⟩⟩
      ·rw [if_neg c13] at H
       exact absurd H (by simp)
     ·rw [if_neg c12] at H
      have c12b0 : decide (x8_1 < (l0_2.length : Int)) = false := decide_eq_false c12
      clear c12
      (first | rw [c12b0] | (simp only [i64_w, i32_w]; rw [c12b0]) | skip)
      have H' := Aside0.mk H
      clear H
      have hnb19 := NB246_247.out
      have hnc19 := NB247_246.out
      obtain ⟨hcz20_0, hcz20_1, hcz20_2, hfz20_0, hfz20_1, hfz20_2⟩ := bc3 BK246.out
      go_wp2
      go_meet
      case rel => exact ⟨_, (x8_1), tS, H', ⟨by have := HK1.out; first | omega | exact Nat.le_refl _⟩, ⟨tK BK246⟩, ⟨tK BK247⟩, ⟨tB⟩⟩
  case rest =>
   clear HC6
   try clear c1
   try clear p2
   try clear q2
   try clear hx2
   try clear c5
   try clear p6
   try clear c9
   try clear c10
   try clear c12
   try clear c12b0
   try clear c13
   try clear c13b0
   try clear c14
   try clear c14b0
   try clear c15
   try clear c17
   try clear c19
   try clear hcz10_0
   try clear hcz10_1
   try clear hcz10_2
   try clear hcz16_0
   try clear hcz16_1
   try clear hcz16_2
   try clear hcz18_0
   try clear hcz18_1
   try clear hcz18_2
   try clear hcz20_0
   try clear hcz20_1
   try clear hcz20_2
   try clear hfz10_0
   try clear hfz10_1
   try clear hfz10_2
   try clear hfz16_0
   try clear hfz16_1
   try clear hfz16_2
   try clear hfz18_0
   try clear hfz18_1
   try clear hfz18_2
   try clear hfz20_0
   try clear hfz20_1
   try clear hfz20_2
   try clear hx254_0
   try clear hx254_1
   try clear hx254_2
   try clear hx254_3
   try clear p2
   try clear p254
   try clear q254
   obtain ⟨kq, x8_5, rfl, HA, HJ5, BK246, BK247, HB⟩ := hcut
   cases kq with
   | zero => exact absurd HA.out (by simp [impl_AddCredential.j1])
   | succ kj5 =>
    have H := HA.out
    clear HA
    simp only [impl_AddCredential.j1] at H
    replace H := Option.bind_eq_some_iff.mp H
    obtain ⟨⟨t255, t256, t257⟩, A210, H⟩ := H
    replace H : ((some (([] : List (S123)) : List (S123))).bind fun y261 => (if 0 ≤ x8_5 then (if x8_5 ≤ (l0_2.length : Int) then ((some (l0_2.take (x8_5 : Int).toNat : List (S123))).bind fun y264 => (if y261.length + y264.length < 4398046511104 then ((some (y261 ++ y264 : List (S123))).bind fun y268 => ((some (([(⟨a1, a2, 0, false⟩ : S123)] : List (S123)) : List (S123))).bind fun y271 => (if y268.length + y271.length < 4398046511104 then ((some (y268 ++ y271 : List (S123))).bind fun y274 => ((some (l0_2.drop (x8_5 : Int).toNat : List (S123))).bind fun y277 => (if y274.length + y277.length < 4398046511104 then ((some (y274 ++ y277 : List (S123))).bind fun y281 => ((impl_IsValidAccount.f kj5 t255 t256 y281).bind fun t284 => (if t284 = true then (some (t255, t256, y281, true)) else ((impl_copyAccount.f a0_0 a0_1 l0_2).bind fun bt285 => (some (bt285.1, bt285.2.1, bt285.2.2, false)))))) else (none)))) else (none)))) else (none))) else (none)) else (none))) = some (r1, r2, r3, r4) := H
    have A21 := Aside0.mk A210
    clear A210
    obtain ⟨y261, hy261⟩ : ∃ y_ : List (S123), y_ = (([] : List (S123))) := ⟨_, rfl⟩
    replace H : (if 0 ≤ x8_5 then (if x8_5 ≤ (l0_2.length : Int) then ((some (l0_2.take (x8_5 : Int).toNat : List (S123))).bind fun y264 => (if y261.length + y264.length < 4398046511104 then ((some (y261 ++ y264 : List (S123))).bind fun y268 => ((some (([(⟨a1, a2, 0, false⟩ : S123)] : List (S123)) : List (S123))).bind fun y271 => (if y268.length + y271.length < 4398046511104 then ((some (y268 ++ y271 : List (S123))).bind fun y274 => ((some (l0_2.drop (x8_5 : Int).toNat : List (S123))).bind fun y277 => (if y274.length + y277.length < 4398046511104 then ((some (y274 ++ y277 : List (S123))).bind fun y281 => ((impl_IsValidAccount.f kj5 t255 t256 y281).bind fun t284 => (if t284 = true then (some (t255, t256, y281, true)) else ((impl_copyAccount.f a0_0 a0_1 l0_2).bind fun bt285 => (some (bt285.1, bt285.2.1, bt285.2.2, false)))))) else (none)))) else (none)))) else (none))) else (none)) else (none)) = some (r1, r2, r3, r4) := by first | (rw [hy261]; with_reducible exact H) | (have H2_ := (Option.bind_some _ _).symm.trans H; rw [hy261]; with_reducible exact H2_) | (have H2_ := (Option.bind_some _ _).symm.trans H; with_reducible exact H2_) | with_reducible exact H | (rw [hy261]; exact H) | exact H
    have Ny261 := Aside0.mk hy261
    clear hy261
    by_cases c22 : 0 ≤ x8_5
    ·rw [if_pos c22] at H
     have c22b0 := eq_true c22
     have c22b1 : decide (0 ≤ x8_5) = true := decide_eq_true c22
     clear c22
     by_cases c23 : x8_5 ≤ (l0_2.length : Int)
     ·rw [if_pos c23] at H
      have c23b0 := eq_true c23
      have c23b1 : decide (x8_5 ≤ (l0_2.length : Int)) = true := decide_eq_true c23
      clear c23
      obtain ⟨y264, hy264⟩ : ∃ y_ : List (S123), y_ = (l0_2.take (x8_5 : Int).toNat) := ⟨_, rfl⟩
      replace H : (if y261.length + y264.length < 4398046511104 then ((some (y261 ++ y264 : List (S123))).bind fun y268 => ((some (([(⟨a1, a2, 0, false⟩ : S123)] : List (S123)) : List (S123))).bind fun y271 => (if y268.length + y271.length < 4398046511104 then ((some (y268 ++ y271 : List (S123))).bind fun y274 => ((some (l0_2.drop (x8_5 : Int).toNat : List (S123))).bind fun y277 => (if y274.length + y277.length < 4398046511104 then ((some (y274 ++ y277 : List (S123))).bind fun y281 => ((impl_IsValidAccount.f kj5 t255 t256 y281).bind fun t284 => (if t284 = true then (some (t255, t256, y281, true)) else ((impl_copyAccount.f a0_0 a0_1 l0_2).bind fun bt285 => (some (bt285.1, bt285.2.1, bt285.2.2, false)))))) else (none)))) else (none)))) else (none)) = some (r1, r2, r3, r4) := by first | (rw [hy264]; with_reducible exact H) | (have H2_ := (Option.bind_some _ _).symm.trans H; rw [hy264]; with_reducible exact H2_) | (have H2_ := (Option.bind_some _ _).symm.trans H; with_reducible exact H2_) | with_reducible exact H | (rw [hy264]; exact H) | exact H
      have Ny264 := Aside0.mk hy264
      clear hy264
      by_cases c24 : y261.length + y264.length < 4398046511104
      ·rw [if_pos c24] at H
       have LMc24 := Aside0.mk c24
       clear c24
       obtain ⟨y268, hy268⟩ : ∃ y_ : List (S123), y_ = (y261 ++ y264) := ⟨_, rfl⟩
       replace H : ((some (([(⟨a1, a2, 0, false⟩ : S123)] : List (S123)) : List (S123))).bind fun y271 => (if y268.length + y271.length < 4398046511104 then ((some (y268 ++ y271 : List (S123))).bind fun y274 => ((some (l0_2.drop (x8_5 : Int).toNat : List (S123))).bind fun y277 => (if y274.length + y277.length < 4398046511104 then ((some (y274 ++ y277 : List (S123))).bind fun y281 => ((impl_IsValidAccount.f kj5 t255 t256 y281).bind fun t284 => (if t284 = true then (some (t255, t256, y281, true)) else ((impl_copyAccount.f a0_0 a0_1 l0_2).bind fun bt285 => (some (bt285.1, bt285.2.1, bt285.2.2, false)))))) else (none)))) else (none))) = some (r1, r2, r3, r4) := by first | (rw [hy268]; with_reducible exact H) | (have H2_ := (Option.bind_some _ _).symm.trans H; rw [hy268]; with_reducible exact H2_) | (have H2_ := (Option.bind_some _ _).symm.trans H; with_reducible exact H2_) | with_reducible exact H | (rw [hy268]; exact H) | exact H
       have Ny268 := Aside0.mk hy268
       clear hy268
       obtain ⟨y271, hy271⟩ : ∃ y_ : List (S123), y_ = (([(⟨a1, a2, 0, false⟩ : S123)] : List (S123))) := ⟨_, rfl⟩
       replace H : (if y268.length + y271.length < 4398046511104 then ((some (y268 ++ y271 : List (S123))).bind fun y274 => ((some (l0_2.drop (x8_5 : Int).toNat : List (S123))).bind fun y277 => (if y274.length + y277.length < 4398046511104 then ((some (y274 ++ y277 : List (S123))).bind fun y281 => ((impl_IsValidAccount.f kj5 t255 t256 y281).bind fun t284 => (if t284 = true then (some (t255, t256, y281, true)) else ((impl_copyAccount.f a0_0 a0_1 l0_2).bind fun bt285 => (some (bt285.1, bt285.2.1, bt285.2.2, false)))))) else (none)))) else (none)) = some (r1, r2, r3, r4) := by first | (rw [hy271]; with_reducible exact H) | (have H2_ := (Option.bind_some _ _).symm.trans H; rw [hy271]; with_reducible exact H2_) | (have H2_ := (Option.bind_some _ _).symm.trans H; with_reducible exact H2_) | with_reducible exact H | (rw [hy271]; exact H) | exact H
       have Ny271 := Aside0.mk hy271
       clear hy271
       by_cases c25 : y268.length + y271.length < 4398046511104
       ·rw [if_pos c25] at H
        have LMc25 := Aside0.mk c25
        clear c25
        obtain ⟨y274, hy274⟩ : ∃ y_ : List (S123), y_ = (y268 ++ y271) := ⟨_, rfl⟩
        replace H : ((some (l0_2.drop (x8_5 : Int).toNat : List (S123))).bind fun y277 => (if y274.length + y277.length < 4398046511104 then ((some (y274 ++ y277 : List (S123))).bind fun y281 => ((impl_IsValidAccount.f kj5 t255 t256 y281).bind fun t284 => (if t284 = true then (some (t255, t256, y281, true)) else ((impl_copyAccount.f a0_0 a0_1 l0_2).bind fun bt285 => (some (bt285.1, bt285.2.1, bt285.2.2, false)))))) else (none))) = some (r1, r2, r3, r4) := by first | (rw [hy274]; with_reducible exact H) | (have H2_ := (Option.bind_some _ _).symm.trans H; rw [hy274]; with_reducible exact H2_) | (have H2_ := (Option.bind_some _ _).symm.trans H; with_reducible exact H2_) | with_reducible exact H | (rw [hy274]; exact H) | exact H
        have Ny274 := Aside0.mk hy274
        clear hy274
        have c26b0 := eq_true (of_decide_eq_true tA : 0 ≤ x8_5)
        have c27b0 := eq_true (of_decide_eq_true tA : x8_5 ≤ (l0_2.length : Int))
        obtain ⟨y277, hy277⟩ : ∃ y_ : List (S123), y_ = (l0_2.drop (x8_5 : Int).toNat) := ⟨_, rfl⟩
        replace H : (if y274.length + y277.length < 4398046511104 then ((some (y274 ++ y277 : List (S123))).bind fun y281 => ((impl_IsValidAccount.f kj5 t255 t256 y281).bind fun t284 => (if t284 = true then (some (t255, t256, y281, true)) else ((impl_copyAccount.f a0_0 a0_1 l0_2).bind fun bt285 => (some (bt285.1, bt285.2.1, bt285.2.2, false)))))) else (none)) = some (r1, r2, r3, r4) := by first | (rw [hy277]; with_reducible exact H) | (have H2_ := (Option.bind_some _ _).symm.trans H; rw [hy277]; with_reducible exact H2_) | (have H2_ := (Option.bind_some _ _).symm.trans H; with_reducible exact H2_) | with_reducible exact H | (rw [hy277]; exact H) | exact H
        have Ny277 := Aside0.mk hy277
        clear hy277
        by_cases c28 : y274.length + y277.length < 4398046511104
        ·rw [if_pos c28] at H
         have LMc28 := Aside0.mk c28
         clear c28
         obtain ⟨y281, hy281⟩ : ∃ y_ : List (S123), y_ = (y274 ++ y277) := ⟨_, rfl⟩
         replace H : ((impl_IsValidAccount.f kj5 t255 t256 y281).bind fun t284 => (if t284 = true then (some (t255, t256, y281, true)) else ((impl_copyAccount.f a0_0 a0_1 l0_2).bind fun bt285 => (some (bt285.1, bt285.2.1, bt285.2.2, false))))) = some (r1, r2, r3, r4) := by first | (rw [hy281]; with_reducible exact H) | (have H2_ := (Option.bind_some _ _).symm.trans H; rw [hy281]; with_reducible exact H2_) | (have H2_ := (Option.bind_some _ _).symm.trans H; with_reducible exact H2_) | with_reducible exact H | (rw [hy281]; exact H) | exact H
         have Ny281 := Aside0.mk hy281
         clear hy281
         replace H := Option.bind_eq_some_iff.mp H
         obtain ⟨t284, A290, H⟩ := H
         replace H : (if t284 = true then (some (t255, t256, y281, true)) else ((impl_copyAccount.f a0_0 a0_1 l0_2).bind fun bt285 => (some (bt285.1, bt285.2.1, bt285.2.2, false)))) = some (r1, r2, r3, r4) := H
         have A29 := Aside0.mk A290
         clear A290
         by_cases c30 : t284 = true
         ·subst c30
          have H1 : (some (t255, t256, y281, true)) = some (r1, r2, r3, r4) := by rw [if_pos rfl] at H; exact H
          clear H
          have H := H1
          clear H1
          simp only [Option.some.injEq, Prod.mk.injEq] at H
          obtain ⟨rfl, rfl, rfl, rfl⟩ := H
          have hnb31 := NB246_247.out
          have hnc31 := NB247_246.out
          obtain ⟨hcz32_0, hcz32_1, hcz32_2, hfz32_0, hfz32_1, hfz32_2⟩ := bc3 BK246.out
          try go_wp2_with (first | ((with_reducible refine gate_callee (f := 106) rfl ?_); refine goesL_ (some 33) rfl rfl Try.func106 (by kernel_rfl) rfl #[.agg #[.int .i64 a0_0, .int .i64 a0_1, .slice A0_2 l0_2.length c0_2]] rfl tL ?_; (with_reducible refine (impl_copyAccount.calls a0_0 a0_1 _ _ l0_2 t255 t256 t257 _ ?side1 ?side2 A21.out).mono ?_); (case side1 => repeat (first | exact (Kd.C_below HR0_2.out HB.out) | (with_reducible refine Kd.C_alloc ?_ _) | (with_reducible refine Kd.C_drewN ?_ _) | (with_reducible refine Kd.C_drew ?_))); (case side2 => exact HC0_2.out); rintro e w33 ⟨v258, rfl, ho0, hb⟩; refine ⟨_, rfl, ?_⟩; have n0_ := Aside0.mk (Kd.R_lower ho0 (below_size tB)); have n1_ := Aside0.mk (blk_below (g := gb246) (o := .cells #[.int .i64 a0_0, .int .i64 a0_1, .slice A0_2 l0_2.length c0_2] 76 (0, 0)) (tK BK246) hb); have n2_ := Aside0.mk (blk_below (g := gb247) (o := .cells #[.int .i64 0, .int .i64 0, .slice none 0 0] 76 (0, 0)) (tK BK247) hb); have n3_ := Aside0.mk (below_step tB hb); clear BK246; clear BK247; clear HB; have HO259 := n0_; have BK246 := n1_; have BK247 := n2_; have HB := n3_; clear n0_ n1_ n2_ n3_; (try clear hb); (try clear hb2); (try clear hk); (try clear hi); (try clear ho0)) | ((with_reducible refine gate_dst (N := 9) rfl ?_); refine box_event ?hg (N := 9) ?hd (cs := #[.int .i64 0, .int .i64 0, .slice none 0 0]) (t := 76) ?hr ?_; (case hd => rfl); (case hg => rfl); (case hr => exact tG); intro gb260 hg w34 hbox hb; have n0_ := Aside0.mk (Kd.R_below (tR HO259) hb); have n1_ := Aside0.mk (blk_below (g := gb246) (o := .cells #[.int .i64 a0_0, .int .i64 a0_1, .slice A0_2 l0_2.length c0_2] 76 (0, 0)) (tK BK246) hb); have n2_ := Aside0.mk (blk_below (g := gb247) (o := .cells #[.int .i64 0, .int .i64 0, .slice none 0 0] 76 (0, 0)) (tK BK247) hb); have n3_ := Aside0.mk (below_step tB hb); have n4_ := Aside0.mk (hbox); have n5_ := Aside0.mk ((by rw [hg]; exact (below_size tB) : w.heap.size ≤ gb260)); have n6_ := Aside0.mk ((by rw [hg]; exact (below_size tB) : w.heap.size ≤ gb260)); have n7_ := Aside0.mk ((by rw [hg]; exact Nat.ne_of_lt (blk_lt (g := gb246) (o := .cells #[.int .i64 a0_0, .int .i64 a0_1, .slice A0_2 l0_2.length c0_2] 76 (0, 0)) (tK BK246)) : gb246 ≠ gb260)); have n8_ := Aside0.mk ((by rw [hg]; exact Nat.ne_of_gt (blk_lt (g := gb246) (o := .cells #[.int .i64 a0_0, .int .i64 a0_1, .slice A0_2 l0_2.length c0_2] 76 (0, 0)) (tK BK246)) : gb260 ≠ gb246)); have n9_ := Aside0.mk ((by rw [hg]; exact Nat.ne_of_lt (blk_lt (g := gb247) (o := .cells #[.int .i64 0, .int .i64 0, .slice none 0 0] 76 (0, 0)) (tK BK247)) : gb247 ≠ gb260)); have n10_ := Aside0.mk ((by rw [hg]; exact Nat.ne_of_gt (blk_lt (g := gb247) (o := .cells #[.int .i64 0, .int .i64 0, .slice none 0 0] 76 (0, 0)) (tK BK247)) : gb260 ≠ gb247)); clear HO259; clear BK246; clear BK247; clear HB; have HO259 := n0_; have BK246 := n1_; have BK247 := n2_; have HB := n3_; have BK260 := n4_; have GW260 := n5_; have GE260 := n6_; have NB246_260 := n7_; have NB260_246 := n8_; have NB247_260 := n9_; have NB260_247 := n10_; clear n0_ n1_ n2_ n3_ n4_ n5_ n6_ n7_ n8_ n9_ n10_; clear hb hbox hg; have hnb35 := NB260_246.out; have hnc35 := NB246_260.out; have hnb36 := NB260_247.out; have hnc36 := NB247_260.out; obtain ⟨hcz37_0, hcz37_1, hcz37_2, hfz37_0, hfz37_1, hfz37_2⟩ := bc3 BK260.out; obtain ⟨Ao38, co38, eo38⟩ := Kd.R_slice HO259.out; subst eo38))
          have n0_ : Aside0 (Kd.R k123 123 (((w34.setCell ⟨gb260, 0, none⟩ (.int .i64 t255)).setCell ⟨gb260, 1, none⟩ (.int .i64 t256)).setCell ⟨gb260, 2, none⟩ (.slice Ao38 t257.length co38)) w.heap.size (fun _ => True) (.slice Ao38 t257.length co38) t257) := ⟨by (with_reducible repeat (first | apply Kd.R_alloc | apply Kd.R_drewN | apply Kd.R_drew)); exact Kd.R_mono (Kd.R_far (p := ⟨gb260, 2, none⟩) (Kd.R_far (p := ⟨gb260, 1, none⟩) (Kd.R_far (p := ⟨gb260, 0, none⟩) (Kd.R_types HO259.out BK260.out (by decide)) (fun _ hk => hk.2) (.int .i64 t255)) (fun _ hk => hk.2) (.int .i64 t256)) (fun _ hk => hk.2) (.slice Ao38 t257.length co38)) (fun _ hk => trivial)⟩
          have n1_ : Aside0 ((((w34.setCell ⟨gb260, 0, none⟩ (.int .i64 t255)).setCell ⟨gb260, 1, none⟩ (.int .i64 t256)).setCell ⟨gb260, 2, none⟩ (.slice Ao38 t257.length co38)).heap[gb246]? = some (.cells #[.int .i64 a0_0, .int .i64 a0_1, .slice A0_2 l0_2.length c0_2] 76 (0, 0))) := ⟨by (with_reducible repeat (first | refine blk_drewN ?_ _ | refine blk_drew ?_ | refine blk_alloc ?_ _)); refine blk_far ?_ NB246_260.out _; (with_reducible repeat (first | refine blk_drewN ?_ _ | refine blk_drew ?_ | refine blk_alloc ?_ _)); refine blk_far ?_ NB246_260.out _; (with_reducible repeat (first | refine blk_drewN ?_ _ | refine blk_drew ?_ | refine blk_alloc ?_ _)); refine blk_far ?_ NB246_260.out _; (with_reducible repeat (first | refine blk_drewN ?_ _ | refine blk_drew ?_ | refine blk_alloc ?_ _)); exact BK246.out⟩
          have n2_ : Aside0 ((((w34.setCell ⟨gb260, 0, none⟩ (.int .i64 t255)).setCell ⟨gb260, 1, none⟩ (.int .i64 t256)).setCell ⟨gb260, 2, none⟩ (.slice Ao38 t257.length co38)).heap[gb247]? = some (.cells #[.int .i64 0, .int .i64 0, .slice none 0 0] 76 (0, 0))) := ⟨by (with_reducible repeat (first | refine blk_drewN ?_ _ | refine blk_drew ?_ | refine blk_alloc ?_ _)); refine blk_far ?_ NB247_260.out _; (with_reducible repeat (first | refine blk_drewN ?_ _ | refine blk_drew ?_ | refine blk_alloc ?_ _)); refine blk_far ?_ NB247_260.out _; (with_reducible repeat (first | refine blk_drewN ?_ _ | refine blk_drew ?_ | refine blk_alloc ?_ _)); refine blk_far ?_ NB247_260.out _; (with_reducible repeat (first | refine blk_drewN ?_ _ | refine blk_drew ?_ | refine blk_alloc ?_ _)); exact BK247.out⟩
          have n3_ : Aside0 ((((w34.setCell ⟨gb260, 0, none⟩ (.int .i64 t255)).setCell ⟨gb260, 1, none⟩ (.int .i64 t256)).setCell ⟨gb260, 2, none⟩ (.slice Ao38 t257.length co38)).heap[gb260]? = some (.cells #[.int .i64 t255, .int .i64 t256, .slice Ao38 t257.length co38] 76 (0, 0))) := ⟨by (with_reducible repeat (first | refine blk_drewN ?_ _ | refine blk_drew ?_ | refine blk_alloc ?_ _)); refine blk_put (cs := #[.int .i64 t255, .int .i64 t256, .slice none 0 0]) ?_ 2 _ rfl; (with_reducible repeat (first | refine blk_drewN ?_ _ | refine blk_drew ?_ | refine blk_alloc ?_ _)); refine blk_put (cs := #[.int .i64 t255, .int .i64 0, .slice none 0 0]) ?_ 1 _ rfl; (with_reducible repeat (first | refine blk_drewN ?_ _ | refine blk_drew ?_ | refine blk_alloc ?_ _)); refine blk_put (cs := #[.int .i64 0, .int .i64 0, .slice none 0 0]) ?_ 0 _ rfl; (with_reducible repeat (first | refine blk_drewN ?_ _ | refine blk_drew ?_ | refine blk_alloc ?_ _)); exact BK260.out⟩
          have n4_ : Aside0 (Below w.heap.size w (((w34.setCell ⟨gb260, 0, none⟩ (.int .i64 t255)).setCell ⟨gb260, 1, none⟩ (.int .i64 t256)).setCell ⟨gb260, 2, none⟩ (.slice Ao38 t257.length co38))) := ⟨tB⟩
          (try clear HO259)
          (try clear BK246)
          (try clear BK247)
          (try clear BK260)
          (try clear HB)
          generalize (((w34.setCell ⟨gb260, 0, none⟩ (.int .i64 t255)).setCell ⟨gb260, 1, none⟩ (.int .i64 t256)).setCell ⟨gb260, 2, none⟩ (.slice Ao38 t257.length co38)) = w39 at n0_ n1_ n2_ n3_ n4_ ⊢
          have HO259 := n0_
          have BK246 := n1_
          have BK247 := n2_
          have BK260 := n3_
          have HB := n4_
          clear n0_ n1_ n2_ n3_ n4_
          have n0_ := Aside0.mk (Kd.R_drew HO259.out)
          have n1_ := Aside0.mk (blk_drew BK246.out)
          have n2_ := Aside0.mk (blk_drew BK247.out)
          have n3_ := Aside0.mk (blk_drew BK260.out)
          have n4_ := Aside0.mk (below_drew1 HB.out)
          clear HO259
          clear BK246
          clear BK247
          clear BK260
          clear HB
          have HO259 := n0_
          have BK246 := n1_
          have BK247 := n2_
          have BK260 := n3_
          have HB := n4_
          clear n0_ n1_ n2_ n3_ n4_
          have q41 : (x8_5 : Int) ≤ ((l0_2.length : Int) : Int) := of_decide_eq_true tA
          obtain ⟨i041, hi041, _, hsz41, _⟩ := info_parts info123
          have hroom41 : l0_2.length ≤ c0_2 := HC0_2.out
          have hC41 : Kd.C k123 _ A0_2 l0_2.length l0_2 := HR0_2.out
          have hcut41 := cut_to (P := Try.prog) 74 123 .i64 Try.underlying74 hi041 A0_2 l0_2.length c0_2 x8_5 (of_decide_eq_true tA) q41 hroom41
          have hr41 := Kd.C_take (m := (x8_5 : Int).toNat) hC41 (by omega)
          have hy41 : y264.length = (x8_5 : Int).toNat := (by rw [Ny264.out, List.length_take]; omega)
          rw [← Ny264.out] at hr41
          rw [← hy41] at hcut41
          have HR267 := Aside0.mk hr41
          have HC267 := Aside0.mk (show y264.length ≤ c0_2 from by omega)
          clear hr41 hC41 hroom41 hi041 hsz41
          have KY41 := Aside0.mk hy41
          clear hy41
          replace q41 := eq_true q41
          have q42 : (x8_5 : Int) ≤ ((l0_2.length : Int) : Int) := of_decide_eq_true tA
          obtain ⟨i042, hi042, _, hsz42, _⟩ := info_parts info123
          have hroom42 : l0_2.length ≤ c0_2 := HC0_2.out
          have hC42 : Kd.C k123 _ A0_2 l0_2.length l0_2 := HR0_2.out
          have q042 : (0 : Int) ≤ (x8_5 : Int) := of_decide_eq_true tA
          have hcut42 := cut_from (P := Try.prog) 74 123 .i64 Try.underlying74 hi042 4 hsz42 A0_2 l0_2.length c0_2 x8_5 q042 q42
          have hr42 := Kd.C_drop (m := (x8_5 : Int).toNat) (c := c0_2) hC42 (by omega) hroom42
          obtain ⟨A42, hA42⟩ : ∃ A1, A1 = (if c0_2 = (x8_5 : Int).toNat then A0_2 else (A0_2 : Option Addr).map (·.add ((x8_5 : Int).toNat * 4))) := ⟨_, rfl⟩
          obtain ⟨c42, hc42⟩ : ∃ c1, c1 = c0_2 - (x8_5 : Int).toNat := ⟨_, rfl⟩
          have hy42 : y277.length = l0_2.length - (x8_5 : Int).toNat := (by rw [Ny277.out, List.length_drop] <;> omega)
          rw [show (l0_2).drop (x8_5 : Int).toNat = y277 from Ny277.out.symm] at hr42
          replace hr42 : Kd.C k123 _ A42 y277.length y277 := (by rw [hA42]; exact hr42)
          rw [← hy42, ← hA42, ← hc42] at hcut42
          have HR280 := Aside0.mk hr42
          have HC280 := Aside0.mk (show y277.length ≤ c42 from by rw [hy42, hc42]; exact Nat.sub_le_sub_right hroom42 _)
          clear hr42 hC42 hroom42 hi042 hsz42 hc42
          have KY42 := Aside0.mk hy42
          have KA42 := Aside0.mk hA42
          clear hy42 hA42
          replace q42 := eq_true q42
          refine start_ (n := 18) (S := fun w' => w'.cell? ⟨gb246, 0, none⟩ = some (.int .i64 a0_0) ∧ w'.cell? ⟨gb246, 1, none⟩ = some (.int .i64 a0_1) ∧ w'.cell? ⟨gb246, 2, none⟩ = some (.slice A0_2 l0_2.length c0_2)) (ds := []) #[false, false, false, false, false, false, false, false, false, false, false, false, false, false, false, false, false, false] (by kernel_rfl) rfl rfl ⟨(blk_cell BK246.out 0).trans rfl, (blk_cell BK246.out 1).trans rfl, (blk_cell BK246.out 2).trans rfl⟩ (fun hHeld => ?_); refine with_tabW impl_AddCredential.tab7 impl_AddCredential.bits7 (fun HT_ HW_ => ?_)
          generalize w39.drew = w40 at HO259 BK246 BK247 BK260 HB HR267 HR280 hHeld ⊢
          refine pure_ (i := 1) (N := some 35) (v := ?_) (a' := ?_) #[false, true, false, false, false, false, false, false, false, false, false, false, false, false, false, false, false, false] rfl rfl (any_of HT_.out (by kernel_rfl)) (fun _ _ _ h => h) (Or.inl ⟨by rfl, ?_⟩) ?_ ?_
          rotate_left
          ·intro w'
           go_simp
           with_reducible rfl
          rotate_left
          ·simp only [Act.put, List.setIfInBounds_toArray, List.set_cons_zero, List.set_cons_succ, i64_w, i32_w]
           rfl
          refine pure_ (i := 3) (N := some 37) (v := ?_) (a' := ?_) #[false, true, false, true, false, false, false, false, false, false, false, false, false, false, false, false, false, false] rfl rfl (any_of HT_.out (by kernel_rfl)) (fun _ _ _ h => h) (Or.inl ⟨by rfl, ?_⟩) ?_ ?_
          rotate_left
          ·intro w'
           go_simp
           with_reducible rfl
          rotate_left
          ·simp only [Act.put, List.setIfInBounds_toArray, List.set_cons_zero, List.set_cons_succ, i64_w, i32_w]
           rfl
          refine pure_ (i := 6) (N := some 40) (v := ?_) (a' := ?_) #[false, true, false, true, false, false, true, false, false, false, false, false, false, false, false, false, false, false] rfl rfl (any_of HT_.out (by kernel_rfl)) (fun _ _ _ h => h) (Or.inl ⟨by rfl, ?_⟩) ?_ ?_
          rotate_left
          ·intro w'
           go_simp
           with_reducible rfl
          rotate_left
          ·simp only [Act.put, List.setIfInBounds_toArray, List.set_cons_zero, List.set_cons_succ, i64_w, i32_w]
           rfl
          refine pure_ (i := 7) (N := some 41) (v := ?_) (a' := ?_) #[false, true, false, true, false, false, true, true, false, false, false, false, false, false, false, false, false, false] rfl rfl (any_of HT_.out (by kernel_rfl)) (fun _ _ _ h => h) (Or.inl ⟨by rfl, ?_⟩) ?_ ?_
          rotate_left
          ·intro w'
           go_simp
           with_reducible rfl
          rotate_left
          ·simp only [Act.put, List.setIfInBounds_toArray, List.set_cons_zero, List.set_cons_succ, i64_w, i32_w]
           rfl
          refine pure_ (i := 8) (N := some 42) (v := ?_) (a' := ?_) #[false, true, false, true, false, false, true, true, true, false, false, false, false, false, false, false, false, false] rfl rfl (any_of HT_.out (by kernel_rfl)) (fun _ _ _ h => h) (Or.inl ⟨by rfl, ?_⟩) ?_ ?_
          rotate_left
          ·intro w'
           go_simp
           with_reducible rfl
          rotate_left
          ·simp only [Act.put, List.setIfInBounds_toArray, List.set_cons_zero, List.set_cons_succ, i64_w, i32_w]
           rfl
          refine pure_ (i := 11) (N := some 45) (v := ?_) (a' := ?_) #[false, true, false, true, false, false, true, true, true, false, false, true, false, false, false, false, false, false] rfl rfl (any_of HT_.out (by kernel_rfl)) (fun _ _ _ h => h) (Or.inl ⟨by rfl, ?_⟩) ?_ ?_
          rotate_left
          ·intro w'
           go_simp
           with_reducible rfl
          rotate_left
          ·simp only [Act.put, List.setIfInBounds_toArray, List.set_cons_zero, List.set_cons_succ, i64_w, i32_w]
           rfl
          refine pure_ (i := 13) (N := some 47) (v := ?_) (a' := ?_) #[false, true, false, true, false, false, true, true, true, false, false, true, false, true, false, false, false, false] rfl rfl (any_of HT_.out (by kernel_rfl)) (fun _ _ _ h => h) (Or.inl ⟨by rfl, ?_⟩) ?_ ?_
          rotate_left
          ·intro w'
           go_simp
           with_reducible rfl
          rotate_left
          ·simp only [Act.put, List.setIfInBounds_toArray, List.set_cons_zero, List.set_cons_succ, i64_w, i32_w]
           rfl
          refine take_ (i := 2) (N := some 36) (v := ?_) (a' := ?_) #[false, true, true, true, false, false, true, true, true, false, false, true, false, true, false, false, false, false] rfl rfl (take_ofW HT_.out HW_.out (by kernel_rfl)) (fun _ _ _ h => h) (Or.inl ⟨by rfl, ?_⟩) hHeld ?_ ?_
          rotate_left
          ·rintro w' ⟨s0, s1, s2⟩
           go_simp
           with_reducible rfl
          rotate_left
          ·simp only [Act.put, List.setIfInBounds_toArray, List.set_cons_zero, List.set_cons_succ, i64_w, i32_w]
           rfl
          refine pure_ (i := 4) (N := some 38) (v := ?_) (a' := ?_) #[false, true, true, true, true, false, true, true, true, false, false, true, false, true, false, false, false, false] rfl rfl (any_of HT_.out (by kernel_rfl)) (fun _ _ _ h => h) (Or.inl ⟨by rfl, ?_⟩) ?_ ?_
          rotate_left
          ·intro w'
           go_simp
           with_reducible rfl
          rotate_left
          ·simp only [Act.put, List.setIfInBounds_toArray, List.set_cons_zero, List.set_cons_succ, i64_w, i32_w]
           rfl
          refine take_ (i := 12) (N := some 46) (v := ?_) (a' := ?_) #[false, true, true, true, true, false, true, true, true, false, false, true, true, true, false, false, false, false] rfl rfl (take_ofW HT_.out HW_.out (by kernel_rfl)) (fun _ _ _ h => h) (Or.inl ⟨by rfl, ?_⟩) hHeld ?_ ?_
          rotate_left
          ·rintro w' ⟨s0, s1, s2⟩
           go_simp
           with_reducible rfl
          rotate_left
          ·simp only [Act.put, List.setIfInBounds_toArray, List.set_cons_zero, List.set_cons_succ, i64_w, i32_w]
           rfl
          refine pure_ (i := 14) (N := some 48) (v := ?_) (a' := ?_) #[false, true, true, true, true, false, true, true, true, false, false, true, true, true, true, false, false, false] rfl rfl (any_of HT_.out (by kernel_rfl)) (fun _ _ _ h => h) (Or.inl ⟨by rfl, ?_⟩) ?_ ?_
          rotate_left
          ·intro w'
           go_simp
           with_reducible rfl
          rotate_left
          ·simp only [Act.put, List.setIfInBounds_toArray, List.set_cons_zero, List.set_cons_succ, i64_w, i32_w]
           rfl
          refine join_ (σ := Value × Value × Value) 4 #[true, true, true, true, true, true, true, true, true, true, false, true, true, true, true, false, false, false] (fun s_ => [(34, s_.1), (39, s_.2.1), (43, s_.2.2)]) (fun s_ w' => (w'.cell? ⟨gb246, 0, none⟩ = some (.int .i64 a0_0) ∧ w'.cell? ⟨gb246, 1, none⟩ = some (.int .i64 a0_1) ∧ w'.cell? ⟨gb246, 2, none⟩ = some (.slice A0_2 l0_2.length c0_2)) ∧ (Kd.R k123 123 w' w.heap.size (fun k_ => some k_ ≠ (s_.2.1 : Value).ownBlock ∧ some k_ ≠ (s_.2.2 : Value).ownBlock) (.slice Ao38 t257.length co38) t257) ∧ (Kd.R k123 123 w' w.heap.size (fun k_ => some k_ ≠ (.slice Ao38 t257.length co38 : Value).ownBlock ∧ some k_ ≠ (s_.2.2 : Value).ownBlock) s_.2.1 y268) ∧ (Kd.R k123 123 w' w.heap.size (fun k_ => some k_ ≠ (.slice Ao38 t257.length co38 : Value).ownBlock ∧ some k_ ≠ (s_.2.1 : Value).ownBlock) s_.2.2 y271) ∧ (w'.heap[gb246]? = some (.cells #[.int .i64 a0_0, .int .i64 a0_1, .slice A0_2 l0_2.length c0_2] 76 (0, 0))) ∧ (w'.heap[gb247]? = some (.cells #[.int .i64 0, .int .i64 0, .slice none 0 0] 76 (0, 0))) ∧ (w'.heap[gb260]? = some (.cells #[.int .i64 t255, .int .i64 t256, .slice Ao38 t257.length co38] 76 (0, 0))) ∧ (Below w.heap.size w w')) ?_ ?_
          rotate_left
          ·intro hCont
           refine two_ (i := 0) (j := 9) (Ni := some 34) (Nj := some 43) #[true, true, true, true, true, false, true, true, true, false, false, true, true, true, true, false, false, false] #[false, true, true, true, true, false, true, true, true, true, false, true, true, true, true, false, false, false] rfl rfl rfl rfl (two_of HT_.out (by kernel_rfl)) (by decide) (by decide) (fun K hK => ?_) (fun K hK => ?_)
           ·skip
            refine Kd.R_lit_step k123 _ 123 ?hg (N := 34) ?hd (xs := ([] : List (S123))) (inner := []) (ok := fun _ => True) (okp := fun _ => True) ?hr ?hp (fun _ hk => hk) trivial (Below.refl _ _) (Nat.le_refl _) (by simp) ?_; (case hd => rfl); (case hg => rfl); (case hr => exact tG); (case hp => exact (Reps.none _ _))
            intro v262 w43 ho44 hb hg_ hnew_
            clear hg_ hnew_
            (first | rw [← Ny261.out] at ho44 | (simp only [Int.reduceToNat] at ho44; rw [← Ny261.out] at ho44))
            have n0_ := Aside0.mk (Kd.R_elder' (tR HO259) (Kd.R_base ho44) hb)
            have n1_ := Aside0.mk (Kd.R_lower (Kd.R_new' ho44 (Kd.R_lt (tR HO259))) (below_size tB))
            have n2_ := Aside0.mk (blk_below (g := gb246) (o := .cells #[.int .i64 a0_0, .int .i64 a0_1, .slice A0_2 l0_2.length c0_2] 76 (0, 0)) (tK BK246) hb)
            have n3_ := Aside0.mk (blk_below (g := gb247) (o := .cells #[.int .i64 0, .int .i64 0, .slice none 0 0] 76 (0, 0)) (tK BK247) hb)
            have n4_ := Aside0.mk (blk_below (g := gb260) (o := .cells #[.int .i64 t255, .int .i64 t256, .slice Ao38 t257.length co38] 76 (0, 0)) (tK BK260) hb)
            have n5_ := Aside0.mk (below_step tB hb)
            clear HO259
            clear BK246
            clear BK247
            clear BK260
            clear HB
            have HO259 := n0_
            have HO263 := n1_
            have BK246 := n2_
            have BK247 := n3_
            have BK260 := n4_
            have HB := n5_
            clear n0_ n1_ n2_ n3_ n4_ n5_
            clear hb ho44
            refine hK.out _ _ ⟨(blk_cell BK246.out 0).trans rfl, (blk_cell BK246.out 1).trans rfl, (blk_cell BK246.out 2).trans rfl⟩ (fun hHeld => ?_)
            clear hK K
            refine norm_ (a' := ?_) ?_ ?_
            rotate_left
            ·show Act.put _ (some 34) _ = _
             simp only [Act.put, List.setIfInBounds_toArray, List.set_cons_zero, List.set_cons_succ, i64_w, i32_w]
             rfl
            refine two_ (i := 5) (j := 9) (Ni := some 39) (Nj := some 43) #[true, true, true, true, true, true, true, true, true, false, false, true, true, true, true, false, false, false] #[true, true, true, true, true, false, true, true, true, true, false, true, true, true, true, false, false, false] rfl rfl rfl rfl (two_of HT_.out (by kernel_rfl)) (by decide) (by decide) (fun K hK => ?_) (fun K hK => ?_)
            ·skip
             refine Kd.R_append_rows_step k123 (w0 := w) w.heap.size (by rfl) (.tmp 34) (.tmp 38) 74 123 (.agg #[(.int .i64 0), (.int .i64 0), (.int .i64 0), (.bool false)]) 32 rfl Try.underlying74 info123 rfl (by decide) (by omega) v262 y261 y264 _ _ _ (fun k_ => some k_ ≠ (.slice Ao38 t257.length co38 : Value).ownBlock) (fun _ => False) rfl rfl ?aO ?aR (fun _ _ h => h) (fun _ h => h.elim) ?aF ?aB ?aS ?aL ?_
             (case aR => repeat (first | exact (Kd.C_below HR267.out HB.out) | (with_reducible refine Kd.C_alloc ?_ _) | (with_reducible refine Kd.C_drewN ?_ _) | (with_reducible refine Kd.C_drew ?_)))
             (case aB => exact tB)
             (case aF => exact (fun k_ hk => Kd.fresh' (Kd.R_lt (tR HO259)) k_ hk))
             (case aO => exact (by (with_reducible repeat (first | apply Kd.R_alloc | apply Kd.R_drewN | apply Kd.R_drew)); exact Kd.R_mono HO263.out (fun _ hk => hk.2)))
             (case aS => exact (below_size tB))
             (case aL => have := LMc24.out; omega)
             intro v269 w45 ho hb hg hat
             rw [← Ny268.out] at ho
             have n0_ := Aside0.mk (blk_grown (g := gb246) (o := .cells #[.int .i64 a0_0, .int .i64 a0_1, .slice A0_2 l0_2.length c0_2] 76 (0, 0)) (tK BK246) hg (Kd.R_ne HO263.out BK246.out (by decide)))
             have n1_ := Aside0.mk (blk_grown (g := gb247) (o := .cells #[.int .i64 0, .int .i64 0, .slice none 0 0] 76 (0, 0)) (tK BK247) hg (Kd.R_ne HO263.out BK247.out (by decide)))
             have n2_ := Aside0.mk (Kd.R_after (ok := (fun _ => True)) (tR HO259) hg hat)
             have n3_ := Aside0.mk (blk_grown (g := gb260) (o := .cells #[.int .i64 t255, .int .i64 t256, .slice Ao38 t257.length co38] 76 (0, 0)) (tK BK260) hg (Kd.R_ne HO263.out BK260.out (by decide)))
             have n4_ := Aside0.mk (hb)
             have n5_ := Aside0.mk (ho)
             clear BK246
             clear BK247
             clear HO259
             clear BK260
             clear HB
             clear HO263
             have BK246 := n0_
             have BK247 := n1_
             have HO259 := n2_
             have BK260 := n3_
             have HB := n4_
             have HO270 := n5_
             clear n0_ n1_ n2_ n3_ n4_ n5_
             clear ho hb hg hat
             refine hK.out _ _ ⟨(blk_cell BK246.out 0).trans rfl, (blk_cell BK246.out 1).trans rfl, (blk_cell BK246.out 2).trans rfl⟩ (fun hHeld => ?_)
             clear hK K
             refine norm_ (a' := ?_) ?_ ?_
             rotate_left
             ·show Act.put _ (some 39) _ = _
              simp only [Act.put, List.setIfInBounds_toArray, List.set_cons_zero, List.set_cons_succ, i64_w, i32_w]
              rfl
             refine one_ (i := 9) (N := some 43) #[true, true, true, true, true, true, true, true, true, true, false, true, true, true, true, false, false, false] rfl rfl (one_of HT_.out (by kernel_rfl)) (by decide) (fun K hK => ?_)
             refine Kd.R_lit_step k123 _ 123 ?hg (N := 43) ?hd (xs := ([(⟨a1, a2, 0, false⟩ : S123)] : List (S123))) (inner := [.int .i64 a1, .int .i64 a2, .int .i64 0, .bool false]) (ok := fun _ => True) (okp := fun _ => True) ?hr ?hp (fun _ hk => hk) trivial (Below.refl _ _) (Nat.le_refl _) (by simp) ?_; (case hd => rfl); (case hg => rfl); (case hr => exact tG); (case hp => exact (Reps.c4 (show Kd.M k123 _ _ _ (⟨a1, a2, 0, false⟩ : S123) [.int .i64 a1, .int .i64 a2, .int .i64 0, .bool false] from (k123_mkM _ _ _ (⟨a1, a2, 0, false⟩ : S123) )) (Reps.none _ _)))
             intro v272 w46 ho47 hb hg_ hnew_
             clear hg_ hnew_
             (first | rw [← Ny271.out] at ho47 | (simp only [Int.reduceToNat] at ho47; rw [← Ny271.out] at ho47))
             have n0_ := Aside0.mk (Kd.R_elder' (tR HO259) (Kd.R_base ho47) hb)
             have n1_ := Aside0.mk (Kd.R_elder' (tR HO270) (Kd.R_base ho47) hb)
             have n2_ := Aside0.mk (Kd.R_lower (Kd.R_new' (Kd.R_new' ho47 (Kd.R_lt (tR HO259))) (Kd.R_lt (tR HO270))) (below_size tB))
             have n3_ := Aside0.mk (blk_below (g := gb246) (o := .cells #[.int .i64 a0_0, .int .i64 a0_1, .slice A0_2 l0_2.length c0_2] 76 (0, 0)) (tK BK246) hb)
             have n4_ := Aside0.mk (blk_below (g := gb247) (o := .cells #[.int .i64 0, .int .i64 0, .slice none 0 0] 76 (0, 0)) (tK BK247) hb)
             have n5_ := Aside0.mk (blk_below (g := gb260) (o := .cells #[.int .i64 t255, .int .i64 t256, .slice Ao38 t257.length co38] 76 (0, 0)) (tK BK260) hb)
             have n6_ := Aside0.mk (below_step tB hb)
             clear HO259
             clear HO270
             clear BK246
             clear BK247
             clear BK260
             clear HB
             have HO259 := n0_
             have HO270 := n1_
             have HO273 := n2_
             have BK246 := n3_
             have BK247 := n4_
             have BK260 := n5_
             have HB := n6_
             clear n0_ n1_ n2_ n3_ n4_ n5_ n6_
             clear hb ho47
             refine hK.out _ _ ⟨(blk_cell BK246.out 0).trans rfl, (blk_cell BK246.out 1).trans rfl, (blk_cell BK246.out 2).trans rfl⟩ (fun hHeld => ?_)
             clear hK K
             refine norm_ (a' := ?_) ?_ ?_
             rotate_left
             ·show Act.put _ (some 43) _ = _
              simp only [Act.put, List.setIfInBounds_toArray, List.set_cons_zero, List.set_cons_succ, i64_w, i32_w]
              rfl
             exact norm_ (by simp only [putAll, Act.put, List.setIfInBounds_toArray, List.set_cons_zero, List.set_cons_succ]) (hCont (v262, v269, v272) _ ⟨hHeld, (by (with_reducible repeat (first | apply Kd.R_alloc | apply Kd.R_drewN | apply Kd.R_drew)); exact Kd.R_mono HO259.out (fun _ hk => ⟨hk.1.2, hk.2⟩)), (tR HO270), (by (with_reducible repeat (first | apply Kd.R_alloc | apply Kd.R_drewN | apply Kd.R_drew)); exact Kd.R_mono HO273.out (fun _ hk => ⟨hk.1.2, hk.2⟩)), (tK BK246), (tK BK247), (tK BK260), tB⟩)
            ·skip
             refine Kd.R_lit_step k123 _ 123 ?hg (N := 43) ?hd (xs := ([(⟨a1, a2, 0, false⟩ : S123)] : List (S123))) (inner := [.int .i64 a1, .int .i64 a2, .int .i64 0, .bool false]) (ok := fun _ => True) (okp := fun _ => True) ?hr ?hp (fun _ hk => hk) trivial (Below.refl _ _) (Nat.le_refl _) (by simp) ?_; (case hd => rfl); (case hg => rfl); (case hr => exact tG); (case hp => exact (Reps.c4 (show Kd.M k123 _ _ _ (⟨a1, a2, 0, false⟩ : S123) [.int .i64 a1, .int .i64 a2, .int .i64 0, .bool false] from (k123_mkM _ _ _ (⟨a1, a2, 0, false⟩ : S123) )) (Reps.none _ _)))
             intro v272 w45 ho46 hb hg_ hnew_
             clear hg_ hnew_
             (first | rw [← Ny271.out] at ho46 | (simp only [Int.reduceToNat] at ho46; rw [← Ny271.out] at ho46))
             have n0_ := Aside0.mk (Kd.R_elder' (tR HO259) (Kd.R_base ho46) hb)
             have n1_ := Aside0.mk (Kd.R_elder' (tR HO263) (Kd.R_base ho46) hb)
             have n2_ := Aside0.mk (Kd.R_lower (Kd.R_new' (Kd.R_new' ho46 (Kd.R_lt (tR HO259))) (Kd.R_lt (tR HO263))) (below_size tB))
             have n3_ := Aside0.mk (blk_below (g := gb246) (o := .cells #[.int .i64 a0_0, .int .i64 a0_1, .slice A0_2 l0_2.length c0_2] 76 (0, 0)) (tK BK246) hb)
             have n4_ := Aside0.mk (blk_below (g := gb247) (o := .cells #[.int .i64 0, .int .i64 0, .slice none 0 0] 76 (0, 0)) (tK BK247) hb)
             have n5_ := Aside0.mk (blk_below (g := gb260) (o := .cells #[.int .i64 t255, .int .i64 t256, .slice Ao38 t257.length co38] 76 (0, 0)) (tK BK260) hb)
             have n6_ := Aside0.mk (below_step tB hb)
             clear HO259
             clear HO263
             clear BK246
             clear BK247
             clear BK260
             clear HB
             have HO259 := n0_
             have HO263 := n1_
             have HO273 := n2_
             have BK246 := n3_
             have BK247 := n4_
             have BK260 := n5_
             have HB := n6_
             clear n0_ n1_ n2_ n3_ n4_ n5_ n6_
             clear hb ho46
             refine hK.out _ _ ⟨(blk_cell BK246.out 0).trans rfl, (blk_cell BK246.out 1).trans rfl, (blk_cell BK246.out 2).trans rfl⟩ (fun hHeld => ?_)
             clear hK K
             refine norm_ (a' := ?_) ?_ ?_
             rotate_left
             ·show Act.put _ (some 43) _ = _
              simp only [Act.put, List.setIfInBounds_toArray, List.set_cons_zero, List.set_cons_succ, i64_w, i32_w]
              rfl
             refine one_ (i := 5) (N := some 39) #[true, true, true, true, true, true, true, true, true, true, false, true, true, true, true, false, false, false] rfl rfl (one_of HT_.out (by kernel_rfl)) (by decide) (fun K hK => ?_)
             refine Kd.R_append_rows_step k123 (w0 := w) w.heap.size (by rfl) (.tmp 34) (.tmp 38) 74 123 (.agg #[(.int .i64 0), (.int .i64 0), (.int .i64 0), (.bool false)]) 32 rfl Try.underlying74 info123 rfl (by decide) (by omega) v262 y261 y264 _ _ _ (fun k_ => some k_ ≠ (.slice Ao38 t257.length co38 : Value).ownBlock ∧ some k_ ≠ (v272 : Value).ownBlock) (fun _ => False) rfl rfl ?aO ?aR (fun _ _ h => h) (fun _ h => h.elim) ?aF ?aB ?aS ?aL ?_
             (case aR => repeat (first | exact (Kd.C_below HR267.out HB.out) | (with_reducible refine Kd.C_alloc ?_ _) | (with_reducible refine Kd.C_drewN ?_ _) | (with_reducible refine Kd.C_drew ?_)))
             (case aB => exact tB)
             (case aF => exact (fun k_ hk => ⟨Kd.fresh' (Kd.R_lt (tR HO259)) k_ hk, Kd.fresh' (Kd.R_lt (tR HO273)) k_ hk⟩))
             (case aO => exact (by (with_reducible repeat (first | apply Kd.R_alloc | apply Kd.R_drewN | apply Kd.R_drew)); exact Kd.R_mono HO263.out (fun _ hk => ⟨hk.1.2, hk.2⟩)))
             (case aS => exact (below_size tB))
             (case aL => have := LMc24.out; omega)
             intro v269 w47 ho hb hg hat
             rw [← Ny268.out] at ho
             have n0_ := Aside0.mk (blk_grown (g := gb246) (o := .cells #[.int .i64 a0_0, .int .i64 a0_1, .slice A0_2 l0_2.length c0_2] 76 (0, 0)) (tK BK246) hg (Kd.R_ne HO263.out BK246.out (by decide)))
             have n1_ := Aside0.mk (blk_grown (g := gb247) (o := .cells #[.int .i64 0, .int .i64 0, .slice none 0 0] 76 (0, 0)) (tK BK247) hg (Kd.R_ne HO263.out BK247.out (by decide)))
             have n2_ := Aside0.mk (Kd.R_after (ok := (fun k_ => some k_ ≠ (v272 : Value).ownBlock)) (by (with_reducible repeat (first | apply Kd.R_alloc | apply Kd.R_drewN | apply Kd.R_drew)); exact Kd.R_mono HO259.out (fun _ hk => ⟨hk.2, hk.1.2⟩)) hg hat)
             have n3_ := Aside0.mk (blk_grown (g := gb260) (o := .cells #[.int .i64 t255, .int .i64 t256, .slice Ao38 t257.length co38] 76 (0, 0)) (tK BK260) hg (Kd.R_ne HO263.out BK260.out (by decide)))
             have n4_ := Aside0.mk (Kd.R_after (ok := (fun k_ => some k_ ≠ (.slice Ao38 t257.length co38 : Value).ownBlock)) (by (with_reducible repeat (first | apply Kd.R_alloc | apply Kd.R_drewN | apply Kd.R_drew)); exact Kd.R_mono HO273.out (fun _ hk => ⟨hk.1.2, hk.2⟩)) hg hat)
             have n5_ := Aside0.mk (hb)
             have n6_ := Aside0.mk (ho)
             clear BK246
             clear BK247
             clear HO259
             clear BK260
             clear HO273
             clear HB
             clear HO263
             have BK246 := n0_
             have BK247 := n1_
             have HO259 := n2_
             have BK260 := n3_
             have HO273 := n4_
             have HB := n5_
             have HO270 := n6_
             clear n0_ n1_ n2_ n3_ n4_ n5_ n6_
             clear ho hb hg hat
             refine hK.out _ _ ⟨(blk_cell BK246.out 0).trans rfl, (blk_cell BK246.out 1).trans rfl, (blk_cell BK246.out 2).trans rfl⟩ (fun hHeld => ?_)
             clear hK K
             refine norm_ (a' := ?_) ?_ ?_
             rotate_left
             ·show Act.put _ (some 39) _ = _
              simp only [Act.put, List.setIfInBounds_toArray, List.set_cons_zero, List.set_cons_succ, i64_w, i32_w]
              rfl
             exact norm_ (by simp only [putAll, Act.put, List.setIfInBounds_toArray, List.set_cons_zero, List.set_cons_succ]) (hCont (v262, v269, v272) _ ⟨hHeld, (by (with_reducible repeat (first | apply Kd.R_alloc | apply Kd.R_drewN | apply Kd.R_drew)); exact Kd.R_mono HO259.out (fun _ hk => ⟨hk.2, hk.1⟩)), (tR HO270), (tR HO273), (tK BK246), (tK BK247), (tK BK260), tB⟩)
           ·skip
            refine Kd.R_lit_step k123 _ 123 ?hg (N := 43) ?hd (xs := ([(⟨a1, a2, 0, false⟩ : S123)] : List (S123))) (inner := [.int .i64 a1, .int .i64 a2, .int .i64 0, .bool false]) (ok := fun _ => True) (okp := fun _ => True) ?hr ?hp (fun _ hk => hk) trivial (Below.refl _ _) (Nat.le_refl _) (by simp) ?_; (case hd => rfl); (case hg => rfl); (case hr => exact tG); (case hp => exact (Reps.c4 (show Kd.M k123 _ _ _ (⟨a1, a2, 0, false⟩ : S123) [.int .i64 a1, .int .i64 a2, .int .i64 0, .bool false] from (k123_mkM _ _ _ (⟨a1, a2, 0, false⟩ : S123) )) (Reps.none _ _)))
            intro v272 w43 ho44 hb hg_ hnew_
            clear hg_ hnew_
            (first | rw [← Ny271.out] at ho44 | (simp only [Int.reduceToNat] at ho44; rw [← Ny271.out] at ho44))
            have n0_ := Aside0.mk (Kd.R_elder' (tR HO259) (Kd.R_base ho44) hb)
            have n1_ := Aside0.mk (Kd.R_lower (Kd.R_new' ho44 (Kd.R_lt (tR HO259))) (below_size tB))
            have n2_ := Aside0.mk (blk_below (g := gb246) (o := .cells #[.int .i64 a0_0, .int .i64 a0_1, .slice A0_2 l0_2.length c0_2] 76 (0, 0)) (tK BK246) hb)
            have n3_ := Aside0.mk (blk_below (g := gb247) (o := .cells #[.int .i64 0, .int .i64 0, .slice none 0 0] 76 (0, 0)) (tK BK247) hb)
            have n4_ := Aside0.mk (blk_below (g := gb260) (o := .cells #[.int .i64 t255, .int .i64 t256, .slice Ao38 t257.length co38] 76 (0, 0)) (tK BK260) hb)
            have n5_ := Aside0.mk (below_step tB hb)
            clear HO259
            clear BK246
            clear BK247
            clear BK260
            clear HB
            have HO259 := n0_
            have HO273 := n1_
            have BK246 := n2_
            have BK247 := n3_
            have BK260 := n4_
            have HB := n5_
            clear n0_ n1_ n2_ n3_ n4_ n5_
            clear hb ho44
            refine hK.out _ _ ⟨(blk_cell BK246.out 0).trans rfl, (blk_cell BK246.out 1).trans rfl, (blk_cell BK246.out 2).trans rfl⟩ (fun hHeld => ?_)
            clear hK K
            refine norm_ (a' := ?_) ?_ ?_
            rotate_left
            ·show Act.put _ (some 43) _ = _
             simp only [Act.put, List.setIfInBounds_toArray, List.set_cons_zero, List.set_cons_succ, i64_w, i32_w]
             rfl
            refine one_ (i := 0) (N := some 34) #[true, true, true, true, true, false, true, true, true, true, false, true, true, true, true, false, false, false] rfl rfl (one_of HT_.out (by kernel_rfl)) (by decide) (fun K hK => ?_)
            refine Kd.R_lit_step k123 _ 123 ?hg (N := 34) ?hd (xs := ([] : List (S123))) (inner := []) (ok := fun _ => True) (okp := fun _ => True) ?hr ?hp (fun _ hk => hk) trivial (Below.refl _ _) (Nat.le_refl _) (by simp) ?_; (case hd => rfl); (case hg => rfl); (case hr => exact tG); (case hp => exact (Reps.none _ _))
            intro v262 w45 ho46 hb hg_ hnew_
            clear hg_ hnew_
            (first | rw [← Ny261.out] at ho46 | (simp only [Int.reduceToNat] at ho46; rw [← Ny261.out] at ho46))
            have n0_ := Aside0.mk (Kd.R_elder' (tR HO259) (Kd.R_base ho46) hb)
            have n1_ := Aside0.mk (Kd.R_elder' (tR HO273) (Kd.R_base ho46) hb)
            have n2_ := Aside0.mk (Kd.R_lower (Kd.R_new' (Kd.R_new' ho46 (Kd.R_lt (tR HO259))) (Kd.R_lt (tR HO273))) (below_size tB))
            have n3_ := Aside0.mk (blk_below (g := gb246) (o := .cells #[.int .i64 a0_0, .int .i64 a0_1, .slice A0_2 l0_2.length c0_2] 76 (0, 0)) (tK BK246) hb)
            have n4_ := Aside0.mk (blk_below (g := gb247) (o := .cells #[.int .i64 0, .int .i64 0, .slice none 0 0] 76 (0, 0)) (tK BK247) hb)
            have n5_ := Aside0.mk (blk_below (g := gb260) (o := .cells #[.int .i64 t255, .int .i64 t256, .slice Ao38 t257.length co38] 76 (0, 0)) (tK BK260) hb)
            have n6_ := Aside0.mk (below_step tB hb)
            clear HO259
            clear HO273
            clear BK246
            clear BK247
            clear BK260
            clear HB
            have HO259 := n0_
            have HO273 := n1_
            have HO263 := n2_
            have BK246 := n3_
            have BK247 := n4_
            have BK260 := n5_
            have HB := n6_
            clear n0_ n1_ n2_ n3_ n4_ n5_ n6_
            clear hb ho46
            refine hK.out _ _ ⟨(blk_cell BK246.out 0).trans rfl, (blk_cell BK246.out 1).trans rfl, (blk_cell BK246.out 2).trans rfl⟩ (fun hHeld => ?_)
            clear hK K
            refine norm_ (a' := ?_) ?_ ?_
            rotate_left
            ·show Act.put _ (some 34) _ = _
             simp only [Act.put, List.setIfInBounds_toArray, List.set_cons_zero, List.set_cons_succ, i64_w, i32_w]
             rfl
            refine one_ (i := 5) (N := some 39) #[true, true, true, true, true, true, true, true, true, true, false, true, true, true, true, false, false, false] rfl rfl (one_of HT_.out (by kernel_rfl)) (by decide) (fun K hK => ?_)
            refine Kd.R_append_rows_step k123 (w0 := w) w.heap.size (by rfl) (.tmp 34) (.tmp 38) 74 123 (.agg #[(.int .i64 0), (.int .i64 0), (.int .i64 0), (.bool false)]) 32 rfl Try.underlying74 info123 rfl (by decide) (by omega) v262 y261 y264 _ _ _ (fun k_ => some k_ ≠ (.slice Ao38 t257.length co38 : Value).ownBlock ∧ some k_ ≠ (v272 : Value).ownBlock) (fun _ => False) rfl rfl ?aO ?aR (fun _ _ h => h) (fun _ h => h.elim) ?aF ?aB ?aS ?aL ?_
            (case aR => repeat (first | exact (Kd.C_below HR267.out HB.out) | (with_reducible refine Kd.C_alloc ?_ _) | (with_reducible refine Kd.C_drewN ?_ _) | (with_reducible refine Kd.C_drew ?_)))
            (case aB => exact tB)
            (case aF => exact (fun k_ hk => ⟨Kd.fresh' (Kd.R_lt (tR HO259)) k_ hk, Kd.fresh' (Kd.R_lt (tR HO273)) k_ hk⟩))
            (case aO => exact (by (with_reducible repeat (first | apply Kd.R_alloc | apply Kd.R_drewN | apply Kd.R_drew)); exact Kd.R_mono HO263.out (fun _ hk => ⟨hk.1.2, hk.2⟩)))
            (case aS => exact (below_size tB))
            (case aL => have := LMc24.out; omega)
            intro v269 w47 ho hb hg hat
            rw [← Ny268.out] at ho
            have n0_ := Aside0.mk (blk_grown (g := gb246) (o := .cells #[.int .i64 a0_0, .int .i64 a0_1, .slice A0_2 l0_2.length c0_2] 76 (0, 0)) (tK BK246) hg (Kd.R_ne HO263.out BK246.out (by decide)))
            have n1_ := Aside0.mk (blk_grown (g := gb247) (o := .cells #[.int .i64 0, .int .i64 0, .slice none 0 0] 76 (0, 0)) (tK BK247) hg (Kd.R_ne HO263.out BK247.out (by decide)))
            have n2_ := Aside0.mk (Kd.R_after (ok := (fun k_ => some k_ ≠ (v272 : Value).ownBlock)) (by (with_reducible repeat (first | apply Kd.R_alloc | apply Kd.R_drewN | apply Kd.R_drew)); exact Kd.R_mono HO259.out (fun _ hk => ⟨hk.1.2, hk.2⟩)) hg hat)
            have n3_ := Aside0.mk (blk_grown (g := gb260) (o := .cells #[.int .i64 t255, .int .i64 t256, .slice Ao38 t257.length co38] 76 (0, 0)) (tK BK260) hg (Kd.R_ne HO263.out BK260.out (by decide)))
            have n4_ := Aside0.mk (Kd.R_after (ok := (fun k_ => some k_ ≠ (.slice Ao38 t257.length co38 : Value).ownBlock)) (by (with_reducible repeat (first | apply Kd.R_alloc | apply Kd.R_drewN | apply Kd.R_drew)); exact Kd.R_mono HO273.out (fun _ hk => ⟨hk.1.2, hk.2⟩)) hg hat)
            have n5_ := Aside0.mk (hb)
            have n6_ := Aside0.mk (ho)
            clear BK246
            clear BK247
            clear HO259
            clear BK260
            clear HO273
            clear HB
            clear HO263
            have BK246 := n0_
            have BK247 := n1_
            have HO259 := n2_
            have BK260 := n3_
            have HO273 := n4_
            have HB := n5_
            have HO270 := n6_
            clear n0_ n1_ n2_ n3_ n4_ n5_ n6_
            clear ho hb hg hat
            refine hK.out _ _ ⟨(blk_cell BK246.out 0).trans rfl, (blk_cell BK246.out 1).trans rfl, (blk_cell BK246.out 2).trans rfl⟩ (fun hHeld => ?_)
            clear hK K
            refine norm_ (a' := ?_) ?_ ?_
            rotate_left
            ·show Act.put _ (some 39) _ = _
             simp only [Act.put, List.setIfInBounds_toArray, List.set_cons_zero, List.set_cons_succ, i64_w, i32_w]
             rfl
            exact norm_ (by simp only [putAll, Act.put, List.setIfInBounds_toArray, List.set_cons_zero, List.set_cons_succ]) (hCont (v262, v269, v272) _ ⟨hHeld, (by (with_reducible repeat (first | apply Kd.R_alloc | apply Kd.R_drewN | apply Kd.R_drew)); exact Kd.R_mono HO259.out (fun _ hk => ⟨hk.2, hk.1⟩)), (tR HO270), (tR HO273), (tK BK246), (tK BK247), (tK BK260), tB⟩)
          rintro ⟨v262, v269, v272⟩ w48 ⟨hS_, h0_, h1_, h2_, h3_, h4_, h5_, h6_⟩
          have n0_ : Aside0 (Kd.R k123 123 w48 w.heap.size (fun k_ => some k_ ≠ (v269 : Value).ownBlock ∧ some k_ ≠ (v272 : Value).ownBlock) (.slice Ao38 t257.length co38) t257) := ⟨h0_⟩
          have n1_ : Aside0 (Kd.R k123 123 w48 w.heap.size (fun k_ => some k_ ≠ (.slice Ao38 t257.length co38 : Value).ownBlock ∧ some k_ ≠ (v272 : Value).ownBlock) v269 y268) := ⟨h1_⟩
          have n2_ : Aside0 (Kd.R k123 123 w48 w.heap.size (fun k_ => some k_ ≠ (.slice Ao38 t257.length co38 : Value).ownBlock ∧ some k_ ≠ (v269 : Value).ownBlock) v272 y271) := ⟨h2_⟩
          have n3_ : Aside0 (w48.heap[gb246]? = some (.cells #[.int .i64 a0_0, .int .i64 a0_1, .slice A0_2 l0_2.length c0_2] 76 (0, 0))) := ⟨h3_⟩
          have n4_ : Aside0 (w48.heap[gb247]? = some (.cells #[.int .i64 0, .int .i64 0, .slice none 0 0] 76 (0, 0))) := ⟨h4_⟩
          have n5_ : Aside0 (w48.heap[gb260]? = some (.cells #[.int .i64 t255, .int .i64 t256, .slice Ao38 t257.length co38] 76 (0, 0))) := ⟨h5_⟩
          have n6_ : Aside0 (Below w.heap.size w w48) := ⟨h6_⟩
          clear HO259
          clear BK246
          clear BK247
          clear BK260
          clear HB
          clear h0_ h1_ h2_ h3_ h4_ h5_ h6_
          have HO259 := n0_
          have HO270 := n1_
          have HO273 := n2_
          have BK246 := n3_
          have BK247 := n4_
          have BK260 := n5_
          have HB := n6_
          clear n0_ n1_ n2_ n3_ n4_ n5_ n6_
          have hHeld : w48.cell? ⟨gb246, 0, none⟩ = some (.int .i64 a0_0) ∧ w48.cell? ⟨gb246, 1, none⟩ = some (.int .i64 a0_1) ∧ w48.cell? ⟨gb246, 2, none⟩ = some (.slice A0_2 l0_2.length c0_2) := hS_
          obtain ⟨Ao50, co50, eo50⟩ := Kd.R_slice HO273.out
          (first | subst eo50 | (injection eo50 with f1_ f2_ f3_; have f4_ := f1_.symm; have f5_ := f3_.symm; clear f1_ f2_ f3_; subst f4_; subst f5_))
          refine norm_ (a' := ?_) ?_ ?_
          rotate_left
          ·simp only [putAll, Act.put, List.setIfInBounds_toArray, List.set_cons_zero, List.set_cons_succ]
           rfl
          refine one_ (i := 10) (N := some 44) #[true, true, true, true, true, true, true, true, true, true, true, true, true, true, true, false, false, false] rfl rfl (one_of HT_.out (by kernel_rfl)) (by decide) (fun K hK => ?_)
          refine Kd.R_append_rows_step k123 (w0 := w) w.heap.size (by rfl) (.tmp 39) (.tmp 43) 74 123 (.agg #[(.int .i64 0), (.int .i64 0), (.int .i64 0), (.bool false)]) 32 rfl Try.underlying74 info123 rfl (by decide) (by omega) v269 y268 y271 _ _ _ (fun k_ => some k_ ≠ (.slice Ao38 t257.length co38 : Value).ownBlock ∧ some k_ ≠ (.slice Ao50 y271.length co50 : Value).ownBlock) (fun _ => False) rfl rfl ?aO ?aR (fun _ _ h => h) (fun _ h => h.elim) ?aF ?aB ?aS ?aL ?_
          (case aR => repeat (first | exact (Kd.R_reads' HO273.out).2.2 | (with_reducible refine Kd.C_alloc ?_ _) | (with_reducible refine Kd.C_drewN ?_ _) | (with_reducible refine Kd.C_drew ?_)))
          (case aB => exact tB)
          (case aF => exact (fun k_ hk => ⟨Kd.fresh' (Kd.R_lt (tR HO259)) k_ hk, Kd.fresh' (Kd.R_lt (tR HO273)) k_ hk⟩))
          (case aO => exact (tR HO270))
          (case aS => exact (below_size tB))
          (case aL => have := LMc25.out; omega)
          intro v275 w49 ho hb hg hat
          rw [← Ny274.out] at ho
          have n0_ := Aside0.mk (blk_grown (g := gb246) (o := .cells #[.int .i64 a0_0, .int .i64 a0_1, .slice A0_2 l0_2.length c0_2] 76 (0, 0)) (tK BK246) hg (Kd.R_ne HO270.out BK246.out (by decide)))
          have n1_ := Aside0.mk (blk_grown (g := gb247) (o := .cells #[.int .i64 0, .int .i64 0, .slice none 0 0] 76 (0, 0)) (tK BK247) hg (Kd.R_ne HO270.out BK247.out (by decide)))
          have n2_ := Aside0.mk (Kd.R_after (ok := (fun k_ => some k_ ≠ (.slice Ao50 y271.length co50 : Value).ownBlock)) (by (with_reducible repeat (first | apply Kd.R_alloc | apply Kd.R_drewN | apply Kd.R_drew)); exact Kd.R_mono HO259.out (fun _ hk => ⟨hk.2, hk.1⟩)) hg hat)
          have n3_ := Aside0.mk (blk_grown (g := gb260) (o := .cells #[.int .i64 t255, .int .i64 t256, .slice Ao38 t257.length co38] 76 (0, 0)) (tK BK260) hg (Kd.R_ne HO270.out BK260.out (by decide)))
          have n4_ := Aside0.mk (Kd.R_after (ok := (fun k_ => some k_ ≠ (.slice Ao38 t257.length co38 : Value).ownBlock)) (tR HO273) hg hat)
          have n5_ := Aside0.mk (hb)
          have n6_ := Aside0.mk (ho)
          clear BK246
          clear BK247
          clear HO259
          clear BK260
          clear HO273
          clear HB
          clear HO270
          have BK246 := n0_
          have BK247 := n1_
          have HO259 := n2_
          have BK260 := n3_
          have HO273 := n4_
          have HB := n5_
          have HO276 := n6_
          clear n0_ n1_ n2_ n3_ n4_ n5_ n6_
          clear ho hb hg hat
          refine hK.out _ _ ⟨(blk_cell BK246.out 0).trans rfl, (blk_cell BK246.out 1).trans rfl, (blk_cell BK246.out 2).trans rfl⟩ (fun hHeld => ?_)
          clear hK K
          refine norm_ (a' := ?_) ?_ ?_
          rotate_left
          ·show Act.put _ (some 44) _ = _
           simp only [Act.put, List.setIfInBounds_toArray, List.set_cons_zero, List.set_cons_succ, i64_w, i32_w]
           rfl
          refine one_ (i := 15) (N := some 49) #[true, true, true, true, true, true, true, true, true, true, true, true, true, true, true, true, false, false] rfl rfl (one_of HT_.out (by kernel_rfl)) (by decide) (fun K hK => ?_)
          refine Kd.R_append_rows_step k123 (w0 := w) w.heap.size (by rfl) (.tmp 44) (.tmp 48) 74 123 (.agg #[(.int .i64 0), (.int .i64 0), (.int .i64 0), (.bool false)]) 32 rfl Try.underlying74 info123 rfl (by decide) (by omega) v275 y274 y277 _ _ _ (fun k_ => some k_ ≠ (.slice Ao38 t257.length co38 : Value).ownBlock ∧ some k_ ≠ (.slice Ao50 y271.length co50 : Value).ownBlock) (fun _ => False) rfl rfl ?aO ?aR (fun _ _ h => h) (fun _ h => h.elim) ?aF ?aB ?aS ?aL ?_
          (case aR => repeat (first | exact (Kd.C_below HR280.out HB.out) | (with_reducible refine Kd.C_alloc ?_ _) | (with_reducible refine Kd.C_drewN ?_ _) | (with_reducible refine Kd.C_drew ?_)))
          (case aB => exact tB)
          (case aF => exact (fun k_ hk => ⟨Kd.fresh' (Kd.R_lt (tR HO259)) k_ hk, Kd.fresh' (Kd.R_lt (tR HO273)) k_ hk⟩))
          (case aO => exact (tR HO276))
          (case aS => exact (below_size tB))
          (case aL => have := LMc28.out; omega)
          intro v282 w51 ho hb hg hat
          rw [← Ny281.out] at ho
          have n0_ := Aside0.mk (blk_grown (g := gb246) (o := .cells #[.int .i64 a0_0, .int .i64 a0_1, .slice A0_2 l0_2.length c0_2] 76 (0, 0)) (tK BK246) hg (Kd.R_ne HO276.out BK246.out (by decide)))
          have n1_ := Aside0.mk (blk_grown (g := gb247) (o := .cells #[.int .i64 0, .int .i64 0, .slice none 0 0] 76 (0, 0)) (tK BK247) hg (Kd.R_ne HO276.out BK247.out (by decide)))
          have n2_ := Aside0.mk (Kd.R_after (ok := (fun k_ => some k_ ≠ (.slice Ao50 y271.length co50 : Value).ownBlock)) (tR HO259) hg hat)
          have n3_ := Aside0.mk (blk_grown (g := gb260) (o := .cells #[.int .i64 t255, .int .i64 t256, .slice Ao38 t257.length co38] 76 (0, 0)) (tK BK260) hg (Kd.R_ne HO276.out BK260.out (by decide)))
          have n4_ := Aside0.mk (Kd.R_after (ok := (fun k_ => some k_ ≠ (.slice Ao38 t257.length co38 : Value).ownBlock)) (tR HO273) hg hat)
          have n5_ := Aside0.mk (hb)
          have n6_ := Aside0.mk (ho)
          clear BK246
          clear BK247
          clear HO259
          clear BK260
          clear HO273
          clear HB
          clear HO276
          have BK246 := n0_
          have BK247 := n1_
          have HO259 := n2_
          have BK260 := n3_
          have HO273 := n4_
          have HB := n5_
          have HO283 := n6_
          clear n0_ n1_ n2_ n3_ n4_ n5_ n6_
          clear ho hb hg hat
          obtain ⟨Ao52, co52, eo52⟩ := Kd.R_slice HO283.out
          (first | subst eo52 | (injection eo52 with f1_ f2_ f3_; have f4_ := f1_.symm; have f5_ := f3_.symm; clear f1_ f2_ f3_; subst f4_; subst f5_))
          refine hK.out _ _ ⟨(blk_cell BK246.out 0).trans rfl, (blk_cell BK246.out 1).trans rfl, (blk_cell BK246.out 2).trans rfl⟩ (fun hHeld => ?_)
          clear hK K
          refine norm_ (a' := ?_) ?_ ?_
          rotate_left
          ·show Act.put _ (some 49) _ = _
           simp only [Act.put, List.setIfInBounds_toArray, List.set_cons_zero, List.set_cons_succ, i64_w, i32_w]
           rfl
          refine pure_ (i := 16) (N := some 50) (v := ?_) (a' := ?_) #[true, true, true, true, true, true, true, true, true, true, true, true, true, true, true, true, true, false] rfl rfl (any_of HT_.out (by kernel_rfl)) (fun _ _ _ h => h) (Or.inl ⟨by rfl, ?_⟩) ?_ ?_
          rotate_left
          ·intro w'
           go_simp
           with_reducible rfl
          rotate_left
          ·simp only [Act.put, List.setIfInBounds_toArray, List.set_cons_zero, List.set_cons_succ, i64_w, i32_w]
           rfl
          refine one_ (i := 17) (N := none) #[true, true, true, true, true, true, true, true, true, true, true, true, true, true, true, true, true, true] rfl rfl (one_of HT_.out (by kernel_rfl)) (by decide) (fun K hK => ?_)
          have hs53 : w51.cell? ⟨gb260, 2, none⟩ = some (.slice Ao38 t257.length co38) := (blk_cell BK260.out 2).trans rfl
          have hfs53 := blk_frozen BK260.out 2
          have hns53_0 := NB246_260.out
          have hns53_1 := NB247_260.out
          have hms53_0 := NB260_246.out
          have hms53_1 := NB260_247.out
          refine skip_ (w1 := ?_) (by rfl) rfl ?_ ?_
          rotate_left
          ·go_simp
           rfl
          refine hK.out _ _ ⟨((cell_far (p := ⟨gb260, _, none⟩) NB246_260.out _).trans (hHeld.1)), ((cell_far (p := ⟨gb260, _, none⟩) NB246_260.out _).trans (hHeld.2.1)), ((cell_far (p := ⟨gb260, _, none⟩) NB246_260.out _).trans (hHeld.2.2))⟩ (fun hHeld => ?_)
          clear hK K
          refine done_ (done_of HT_.out (by kernel_rfl)) ?_
          obtain ⟨hcz54_0, hcz54_1, hcz54_2, hfz54_0, hfz54_1, hfz54_2⟩ := bc3 BK260.out
          try go_wp2_with (first | ((with_reducible refine gate_callee (f := 105) rfl ?_); refine goesL_ (some 52) rfl rfl Try.func105 (by kernel_rfl) rfl #[.agg #[.int .i64 t255, .int .i64 t256, .slice Ao52 y281.length co52]] rfl tL ?_; (with_reducible refine (impl_IsValidAccount.calls kj5 t255 t256 _ _ y281 true _ ?side1 ?side2 A29.out).mono ?_); (case side1 => refine (Kd.R_reads' (e := 123) (base := w.heap.size) (ok := fun k_ => (some k_ ≠ (.slice Ao38 t257.length co38 : Value).ownBlock ∧ some k_ ≠ (.slice Ao50 y271.length co50 : Value).ownBlock)) (n := y281.length) (c := co52) ?_).2.2; exact (by (with_reducible repeat (first | apply Kd.R_alloc | apply Kd.R_drewN | apply Kd.R_drew)); exact (Kd.R_mono (Kd.R_far (p := ⟨gb260, 2, none⟩) (Kd.R_types HO283.out BK260.out (by decide)) (fun _ hk => hk.2) (.slice Ao52 y281.length co52)) (fun _ h_ => h_.1)))); (case side2 => exact (Kd.R_reads' HO283.out).2.1); rintro e w55 ⟨rfl, hb⟩; refine ⟨_, rfl, ?_⟩; have n0_ := Aside0.mk (Kd.R_below (by (with_reducible repeat (first | apply Kd.R_alloc | apply Kd.R_drewN | apply Kd.R_drew)); exact (Kd.R_mono (Kd.R_far (p := ⟨gb260, 2, none⟩) (Kd.R_types HO259.out BK260.out (by decide)) (fun _ hk => hk.2) (.slice Ao52 y281.length co52)) (fun _ h_ => h_.1))) hb); have n1_ := Aside0.mk (Kd.R_below (by (with_reducible repeat (first | apply Kd.R_alloc | apply Kd.R_drewN | apply Kd.R_drew)); exact (Kd.R_mono (Kd.R_far (p := ⟨gb260, 2, none⟩) (Kd.R_types HO273.out BK260.out (by decide)) (fun _ hk => hk.2) (.slice Ao52 y281.length co52)) (fun _ h_ => h_.1))) hb); have n2_ := Aside0.mk (Kd.R_below (by (with_reducible repeat (first | apply Kd.R_alloc | apply Kd.R_drewN | apply Kd.R_drew)); exact (Kd.R_mono (Kd.R_far (p := ⟨gb260, 2, none⟩) (Kd.R_types HO283.out BK260.out (by decide)) (fun _ hk => hk.2) (.slice Ao52 y281.length co52)) (fun _ h_ => h_.1))) hb); have n3_ := Aside0.mk (blk_below (g := gb246) (o := .cells #[.int .i64 a0_0, .int .i64 a0_1, .slice A0_2 l0_2.length c0_2] 76 (0, 0)) (by (with_reducible repeat (first | refine blk_drewN ?_ _ | refine blk_drew ?_ | refine blk_alloc ?_ _)); refine blk_far ?_ NB246_260.out _; (with_reducible repeat (first | refine blk_drewN ?_ _ | refine blk_drew ?_ | refine blk_alloc ?_ _)); exact BK246.out) hb); have n4_ := Aside0.mk (blk_below (g := gb247) (o := .cells #[.int .i64 0, .int .i64 0, .slice none 0 0] 76 (0, 0)) (by (with_reducible repeat (first | refine blk_drewN ?_ _ | refine blk_drew ?_ | refine blk_alloc ?_ _)); refine blk_far ?_ NB247_260.out _; (with_reducible repeat (first | refine blk_drewN ?_ _ | refine blk_drew ?_ | refine blk_alloc ?_ _)); exact BK247.out) hb); have n5_ := Aside0.mk (blk_below (g := gb260) (o := .cells #[.int .i64 t255, .int .i64 t256, .slice Ao52 y281.length co52] 76 (0, 0)) (by (with_reducible repeat (first | refine blk_drewN ?_ _ | refine blk_drew ?_ | refine blk_alloc ?_ _)); refine blk_put (cs := #[.int .i64 t255, .int .i64 t256, .slice Ao38 t257.length co38]) ?_ 2 _ rfl; (with_reducible repeat (first | refine blk_drewN ?_ _ | refine blk_drew ?_ | refine blk_alloc ?_ _)); exact BK260.out) hb); have n6_ := Aside0.mk (below_step tB hb); clear HO259; clear HO273; clear HO283; clear BK246; clear BK247; clear BK260; clear HB; have HO259 := n0_; have HO273 := n1_; have HO283 := n2_; have BK246 := n3_; have BK247 := n4_; have BK260 := n5_; have HB := n6_; clear n0_ n1_ n2_ n3_ n4_ n5_ n6_; (try clear hb); (try clear hb2); (try clear hk); (try clear hi); obtain ⟨hcz56_0, hcz56_1, hcz56_2, hfz56_0, hfz56_1, hfz56_2⟩ := bc3 BK260.out; obtain ⟨hcz57_0, hcz57_1, hcz57_2, hfz57_0, hfz57_1, hfz57_2⟩ := bc3 BK247.out))
          refine bodyPost_ret (results_ct rfl _ _ gb247 76 #[.int .i64 t255, .int .i64 t256, .slice Ao52 y281.length co52] (0, 0) _ rfl (by (with_reducible repeat (first | refine blk_drewN ?_ _ | refine blk_drew ?_ | refine blk_alloc ?_ _)); refine blk_put (cs := #[.int .i64 t255, .int .i64 t256, .slice none 0 0]) ?_ 2 _ rfl; (with_reducible repeat (first | refine blk_drewN ?_ _ | refine blk_drew ?_ | refine blk_alloc ?_ _)); refine blk_put (cs := #[.int .i64 t255, .int .i64 0, .slice none 0 0]) ?_ 1 _ rfl; (with_reducible repeat (first | refine blk_drewN ?_ _ | refine blk_drew ?_ | refine blk_alloc ?_ _)); refine blk_put (cs := #[.int .i64 0, .int .i64 0, .slice none 0 0]) ?_ 0 _ rfl; (with_reducible repeat (first | refine blk_drewN ?_ _ | refine blk_drew ?_ | refine blk_alloc ?_ _)); exact BK247.out) Try.underlying76 rfl (by kernel_rfl)) rfl ?_
          exact ⟨_, tE, by (with_reducible repeat (first | apply Kd.R_alloc | apply Kd.R_drewN | apply Kd.R_drew)); exact Kd.R_mono (Kd.R_far (p := ⟨gb247, 2, none⟩) (Kd.R_far (p := ⟨gb247, 1, none⟩) (Kd.R_far (p := ⟨gb247, 0, none⟩) (Kd.R_types HO283.out BK247.out (by decide)) (fun _ hk => hk.2) (.int .i64 t255)) (fun _ hk => hk.2) (.int .i64 t256)) (fun _ hk => hk.2) (.slice Ao52 y281.length co52)) (fun _ hk => trivial), tB⟩
         ·replace c30 := Bool.eq_false_iff.mpr c30
          subst c30
          have H1 : ((impl_copyAccount.f a0_0 a0_1 l0_2).bind fun bt285 => (some (bt285.1, bt285.2.1, bt285.2.2, false))) = some (r1, r2, r3, r4) := by rw [if_neg (show ¬ (false = true) by decide)] at H; exact H
          clear H
          have H := H1
          clear H1
          replace H := Option.bind_eq_some_iff.mp H
          obtain ⟨⟨t285, t286, t287⟩, A580, H⟩ := H
          replace H : (some (t285, t286, t287, false)) = some (r1, r2, r3, r4) := H
          have A58 := Aside0.mk A580
          clear A580
          simp only [Option.some.injEq, Prod.mk.injEq] at H
          obtain ⟨rfl, rfl, rfl, rfl⟩ := H
          have hnb59 := NB246_247.out
          have hnc59 := NB247_246.out
          obtain ⟨hcz60_0, hcz60_1, hcz60_2, hfz60_0, hfz60_1, hfz60_2⟩ := bc3 BK246.out
          try go_wp2_with (first | ((with_reducible refine gate_callee (f := 106) rfl ?_); refine goesL_ (some 33) rfl rfl Try.func106 (by kernel_rfl) rfl #[.agg #[.int .i64 a0_0, .int .i64 a0_1, .slice A0_2 l0_2.length c0_2]] rfl tL ?_; (with_reducible refine (impl_copyAccount.calls a0_0 a0_1 _ _ l0_2 t255 t256 t257 _ ?side1 ?side2 A21.out).mono ?_); (case side1 => repeat (first | exact (Kd.C_below HR0_2.out HB.out) | (with_reducible refine Kd.C_alloc ?_ _) | (with_reducible refine Kd.C_drewN ?_ _) | (with_reducible refine Kd.C_drew ?_))); (case side2 => exact HC0_2.out); rintro e w61 ⟨v258, rfl, ho0, hb⟩; refine ⟨_, rfl, ?_⟩; have n0_ := Aside0.mk (Kd.R_lower ho0 (below_size tB)); have n1_ := Aside0.mk (blk_below (g := gb246) (o := .cells #[.int .i64 a0_0, .int .i64 a0_1, .slice A0_2 l0_2.length c0_2] 76 (0, 0)) (tK BK246) hb); have n2_ := Aside0.mk (blk_below (g := gb247) (o := .cells #[.int .i64 0, .int .i64 0, .slice none 0 0] 76 (0, 0)) (tK BK247) hb); have n3_ := Aside0.mk (below_step tB hb); clear BK246; clear BK247; clear HB; have HO259 := n0_; have BK246 := n1_; have BK247 := n2_; have HB := n3_; clear n0_ n1_ n2_ n3_; (try clear hb); (try clear hb2); (try clear hk); (try clear hi); (try clear ho0)) | ((with_reducible refine gate_dst (N := 9) rfl ?_); refine box_event ?hg (N := 9) ?hd (cs := #[.int .i64 0, .int .i64 0, .slice none 0 0]) (t := 76) ?hr ?_; (case hd => rfl); (case hg => rfl); (case hr => exact tG); intro gb260 hg w62 hbox hb; have n0_ := Aside0.mk (Kd.R_below (tR HO259) hb); have n1_ := Aside0.mk (blk_below (g := gb246) (o := .cells #[.int .i64 a0_0, .int .i64 a0_1, .slice A0_2 l0_2.length c0_2] 76 (0, 0)) (tK BK246) hb); have n2_ := Aside0.mk (blk_below (g := gb247) (o := .cells #[.int .i64 0, .int .i64 0, .slice none 0 0] 76 (0, 0)) (tK BK247) hb); have n3_ := Aside0.mk (below_step tB hb); have n4_ := Aside0.mk (hbox); have n5_ := Aside0.mk ((by rw [hg]; exact (below_size tB) : w.heap.size ≤ gb260)); have n6_ := Aside0.mk ((by rw [hg]; exact (below_size tB) : w.heap.size ≤ gb260)); have n7_ := Aside0.mk ((by rw [hg]; exact Nat.ne_of_lt (blk_lt (g := gb246) (o := .cells #[.int .i64 a0_0, .int .i64 a0_1, .slice A0_2 l0_2.length c0_2] 76 (0, 0)) (tK BK246)) : gb246 ≠ gb260)); have n8_ := Aside0.mk ((by rw [hg]; exact Nat.ne_of_gt (blk_lt (g := gb246) (o := .cells #[.int .i64 a0_0, .int .i64 a0_1, .slice A0_2 l0_2.length c0_2] 76 (0, 0)) (tK BK246)) : gb260 ≠ gb246)); have n9_ := Aside0.mk ((by rw [hg]; exact Nat.ne_of_lt (blk_lt (g := gb247) (o := .cells #[.int .i64 0, .int .i64 0, .slice none 0 0] 76 (0, 0)) (tK BK247)) : gb247 ≠ gb260)); have n10_ := Aside0.mk ((by rw [hg]; exact Nat.ne_of_gt (blk_lt (g := gb247) (o := .cells #[.int .i64 0, .int .i64 0, .slice none 0 0] 76 (0, 0)) (tK BK247)) : gb260 ≠ gb247)); clear HO259; clear BK246; clear BK247; clear HB; have HO259 := n0_; have BK246 := n1_; have BK247 := n2_; have HB := n3_; have BK260 := n4_; have GW260 := n5_; have GE260 := n6_; have NB246_260 := n7_; have NB260_246 := n8_; have NB247_260 := n9_; have NB260_247 := n10_; clear n0_ n1_ n2_ n3_ n4_ n5_ n6_ n7_ n8_ n9_ n10_; clear hb hbox hg; have hnb63 := NB260_246.out; have hnc63 := NB246_260.out; have hnb64 := NB260_247.out; have hnc64 := NB247_260.out; obtain ⟨hcz65_0, hcz65_1, hcz65_2, hfz65_0, hfz65_1, hfz65_2⟩ := bc3 BK260.out; obtain ⟨Ao66, co66, eo66⟩ := Kd.R_slice HO259.out; subst eo66))
          have n0_ : Aside0 (Kd.R k123 123 (((w62.setCell ⟨gb260, 0, none⟩ (.int .i64 t255)).setCell ⟨gb260, 1, none⟩ (.int .i64 t256)).setCell ⟨gb260, 2, none⟩ (.slice Ao66 t257.length co66)) w.heap.size (fun _ => True) (.slice Ao66 t257.length co66) t257) := ⟨by (with_reducible repeat (first | apply Kd.R_alloc | apply Kd.R_drewN | apply Kd.R_drew)); exact Kd.R_mono (Kd.R_far (p := ⟨gb260, 2, none⟩) (Kd.R_far (p := ⟨gb260, 1, none⟩) (Kd.R_far (p := ⟨gb260, 0, none⟩) (Kd.R_types HO259.out BK260.out (by decide)) (fun _ hk => hk.2) (.int .i64 t255)) (fun _ hk => hk.2) (.int .i64 t256)) (fun _ hk => hk.2) (.slice Ao66 t257.length co66)) (fun _ hk => trivial)⟩
          have n1_ : Aside0 ((((w62.setCell ⟨gb260, 0, none⟩ (.int .i64 t255)).setCell ⟨gb260, 1, none⟩ (.int .i64 t256)).setCell ⟨gb260, 2, none⟩ (.slice Ao66 t257.length co66)).heap[gb246]? = some (.cells #[.int .i64 a0_0, .int .i64 a0_1, .slice A0_2 l0_2.length c0_2] 76 (0, 0))) := ⟨by (with_reducible repeat (first | refine blk_drewN ?_ _ | refine blk_drew ?_ | refine blk_alloc ?_ _)); refine blk_far ?_ NB246_260.out _; (with_reducible repeat (first | refine blk_drewN ?_ _ | refine blk_drew ?_ | refine blk_alloc ?_ _)); refine blk_far ?_ NB246_260.out _; (with_reducible repeat (first | refine blk_drewN ?_ _ | refine blk_drew ?_ | refine blk_alloc ?_ _)); refine blk_far ?_ NB246_260.out _; (with_reducible repeat (first | refine blk_drewN ?_ _ | refine blk_drew ?_ | refine blk_alloc ?_ _)); exact BK246.out⟩
          have n2_ : Aside0 ((((w62.setCell ⟨gb260, 0, none⟩ (.int .i64 t255)).setCell ⟨gb260, 1, none⟩ (.int .i64 t256)).setCell ⟨gb260, 2, none⟩ (.slice Ao66 t257.length co66)).heap[gb247]? = some (.cells #[.int .i64 0, .int .i64 0, .slice none 0 0] 76 (0, 0))) := ⟨by (with_reducible repeat (first | refine blk_drewN ?_ _ | refine blk_drew ?_ | refine blk_alloc ?_ _)); refine blk_far ?_ NB247_260.out _; (with_reducible repeat (first | refine blk_drewN ?_ _ | refine blk_drew ?_ | refine blk_alloc ?_ _)); refine blk_far ?_ NB247_260.out _; (with_reducible repeat (first | refine blk_drewN ?_ _ | refine blk_drew ?_ | refine blk_alloc ?_ _)); refine blk_far ?_ NB247_260.out _; (with_reducible repeat (first | refine blk_drewN ?_ _ | refine blk_drew ?_ | refine blk_alloc ?_ _)); exact BK247.out⟩
          have n3_ : Aside0 ((((w62.setCell ⟨gb260, 0, none⟩ (.int .i64 t255)).setCell ⟨gb260, 1, none⟩ (.int .i64 t256)).setCell ⟨gb260, 2, none⟩ (.slice Ao66 t257.length co66)).heap[gb260]? = some (.cells #[.int .i64 t255, .int .i64 t256, .slice Ao66 t257.length co66] 76 (0, 0))) := ⟨by (with_reducible repeat (first | refine blk_drewN ?_ _ | refine blk_drew ?_ | refine blk_alloc ?_ _)); refine blk_put (cs := #[.int .i64 t255, .int .i64 t256, .slice none 0 0]) ?_ 2 _ rfl; (with_reducible repeat (first | refine blk_drewN ?_ _ | refine blk_drew ?_ | refine blk_alloc ?_ _)); refine blk_put (cs := #[.int .i64 t255, .int .i64 0, .slice none 0 0]) ?_ 1 _ rfl; (with_reducible repeat (first | refine blk_drewN ?_ _ | refine blk_drew ?_ | refine blk_alloc ?_ _)); refine blk_put (cs := #[.int .i64 0, .int .i64 0, .slice none 0 0]) ?_ 0 _ rfl; (with_reducible repeat (first | refine blk_drewN ?_ _ | refine blk_drew ?_ | refine blk_alloc ?_ _)); exact BK260.out⟩
          have n4_ : Aside0 (Below w.heap.size w (((w62.setCell ⟨gb260, 0, none⟩ (.int .i64 t255)).setCell ⟨gb260, 1, none⟩ (.int .i64 t256)).setCell ⟨gb260, 2, none⟩ (.slice Ao66 t257.length co66))) := ⟨tB⟩
          (try clear HO259)
          (try clear BK246)
          (try clear BK247)
          (try clear BK260)
          (try clear HB)
          generalize (((w62.setCell ⟨gb260, 0, none⟩ (.int .i64 t255)).setCell ⟨gb260, 1, none⟩ (.int .i64 t256)).setCell ⟨gb260, 2, none⟩ (.slice Ao66 t257.length co66)) = w67 at n0_ n1_ n2_ n3_ n4_ ⊢
          have HO259 := n0_
          have BK246 := n1_
          have BK247 := n2_
          have BK260 := n3_
          have HB := n4_
          clear n0_ n1_ n2_ n3_ n4_
          have n0_ := Aside0.mk (Kd.R_drew HO259.out)
          have n1_ := Aside0.mk (blk_drew BK246.out)
          have n2_ := Aside0.mk (blk_drew BK247.out)
          have n3_ := Aside0.mk (blk_drew BK260.out)
          have n4_ := Aside0.mk (below_drew1 HB.out)
          clear HO259
          clear BK246
          clear BK247
          clear BK260
          clear HB
          have HO259 := n0_
          have BK246 := n1_
          have BK247 := n2_
          have BK260 := n3_
          have HB := n4_
          clear n0_ n1_ n2_ n3_ n4_
          have q69 : (x8_5 : Int) ≤ ((l0_2.length : Int) : Int) := of_decide_eq_true tA
          obtain ⟨i069, hi069, _, hsz69, _⟩ := info_parts info123
          have hroom69 : l0_2.length ≤ c0_2 := HC0_2.out
          have hC69 : Kd.C k123 _ A0_2 l0_2.length l0_2 := HR0_2.out
          have hcut69 := cut_to (P := Try.prog) 74 123 .i64 Try.underlying74 hi069 A0_2 l0_2.length c0_2 x8_5 (of_decide_eq_true tA) q69 hroom69
          have hr69 := Kd.C_take (m := (x8_5 : Int).toNat) hC69 (by omega)
          have hy69 : y264.length = (x8_5 : Int).toNat := (by rw [Ny264.out, List.length_take]; omega)
          rw [← Ny264.out] at hr69
          rw [← hy69] at hcut69
          have HR267 := Aside0.mk hr69
          have HC267 := Aside0.mk (show y264.length ≤ c0_2 from by omega)
          clear hr69 hC69 hroom69 hi069 hsz69
          have KY69 := Aside0.mk hy69
          clear hy69
          replace q69 := eq_true q69
          have q70 : (x8_5 : Int) ≤ ((l0_2.length : Int) : Int) := of_decide_eq_true tA
          obtain ⟨i070, hi070, _, hsz70, _⟩ := info_parts info123
          have hroom70 : l0_2.length ≤ c0_2 := HC0_2.out
          have hC70 : Kd.C k123 _ A0_2 l0_2.length l0_2 := HR0_2.out
          have q070 : (0 : Int) ≤ (x8_5 : Int) := of_decide_eq_true tA
          have hcut70 := cut_from (P := Try.prog) 74 123 .i64 Try.underlying74 hi070 4 hsz70 A0_2 l0_2.length c0_2 x8_5 q070 q70
          have hr70 := Kd.C_drop (m := (x8_5 : Int).toNat) (c := c0_2) hC70 (by omega) hroom70
          obtain ⟨A70, hA70⟩ : ∃ A1, A1 = (if c0_2 = (x8_5 : Int).toNat then A0_2 else (A0_2 : Option Addr).map (·.add ((x8_5 : Int).toNat * 4))) := ⟨_, rfl⟩
          obtain ⟨c70, hc70⟩ : ∃ c1, c1 = c0_2 - (x8_5 : Int).toNat := ⟨_, rfl⟩
          have hy70 : y277.length = l0_2.length - (x8_5 : Int).toNat := (by rw [Ny277.out, List.length_drop] <;> omega)
          rw [show (l0_2).drop (x8_5 : Int).toNat = y277 from Ny277.out.symm] at hr70
          replace hr70 : Kd.C k123 _ A70 y277.length y277 := (by rw [hA70]; exact hr70)
          rw [← hy70, ← hA70, ← hc70] at hcut70
          have HR280 := Aside0.mk hr70
          have HC280 := Aside0.mk (show y277.length ≤ c70 from by rw [hy70, hc70]; exact Nat.sub_le_sub_right hroom70 _)
          clear hr70 hC70 hroom70 hi070 hsz70 hc70
          have KY70 := Aside0.mk hy70
          have KA70 := Aside0.mk hA70
          clear hy70 hA70
          replace q70 := eq_true q70
          refine start_ (n := 18) (S := fun w' => w'.cell? ⟨gb246, 0, none⟩ = some (.int .i64 a0_0) ∧ w'.cell? ⟨gb246, 1, none⟩ = some (.int .i64 a0_1) ∧ w'.cell? ⟨gb246, 2, none⟩ = some (.slice A0_2 l0_2.length c0_2)) (ds := []) #[false, false, false, false, false, false, false, false, false, false, false, false, false, false, false, false, false, false] (by kernel_rfl) rfl rfl ⟨(blk_cell BK246.out 0).trans rfl, (blk_cell BK246.out 1).trans rfl, (blk_cell BK246.out 2).trans rfl⟩ (fun hHeld => ?_); refine with_tabW impl_AddCredential.tab7 impl_AddCredential.bits7 (fun HT_ HW_ => ?_)
          generalize w67.drew = w68 at HO259 BK246 BK247 BK260 HB HR267 HR280 hHeld ⊢
          refine pure_ (i := 1) (N := some 35) (v := ?_) (a' := ?_) #[false, true, false, false, false, false, false, false, false, false, false, false, false, false, false, false, false, false] rfl rfl (any_of HT_.out (by kernel_rfl)) (fun _ _ _ h => h) (Or.inl ⟨by rfl, ?_⟩) ?_ ?_
          rotate_left
          ·intro w'
           go_simp
           with_reducible rfl
          rotate_left
          ·simp only [Act.put, List.setIfInBounds_toArray, List.set_cons_zero, List.set_cons_succ, i64_w, i32_w]
           rfl
          refine pure_ (i := 3) (N := some 37) (v := ?_) (a' := ?_) #[false, true, false, true, false, false, false, false, false, false, false, false, false, false, false, false, false, false] rfl rfl (any_of HT_.out (by kernel_rfl)) (fun _ _ _ h => h) (Or.inl ⟨by rfl, ?_⟩) ?_ ?_
          rotate_left
          ·intro w'
           go_simp
           with_reducible rfl
          rotate_left
          ·simp only [Act.put, List.setIfInBounds_toArray, List.set_cons_zero, List.set_cons_succ, i64_w, i32_w]
           rfl
          refine pure_ (i := 6) (N := some 40) (v := ?_) (a' := ?_) #[false, true, false, true, false, false, true, false, false, false, false, false, false, false, false, false, false, false] rfl rfl (any_of HT_.out (by kernel_rfl)) (fun _ _ _ h => h) (Or.inl ⟨by rfl, ?_⟩) ?_ ?_
          rotate_left
          ·intro w'
           go_simp
           with_reducible rfl
          rotate_left
          ·simp only [Act.put, List.setIfInBounds_toArray, List.set_cons_zero, List.set_cons_succ, i64_w, i32_w]
           rfl
          refine pure_ (i := 7) (N := some 41) (v := ?_) (a' := ?_) #[false, true, false, true, false, false, true, true, false, false, false, false, false, false, false, false, false, false] rfl rfl (any_of HT_.out (by kernel_rfl)) (fun _ _ _ h => h) (Or.inl ⟨by rfl, ?_⟩) ?_ ?_
          rotate_left
          ·intro w'
           go_simp
           with_reducible rfl
          rotate_left
          ·simp only [Act.put, List.setIfInBounds_toArray, List.set_cons_zero, List.set_cons_succ, i64_w, i32_w]
           rfl
          refine pure_ (i := 8) (N := some 42) (v := ?_) (a' := ?_) #[false, true, false, true, false, false, true, true, true, false, false, false, false, false, false, false, false, false] rfl rfl (any_of HT_.out (by kernel_rfl)) (fun _ _ _ h => h) (Or.inl ⟨by rfl, ?_⟩) ?_ ?_
          rotate_left
          ·intro w'
           go_simp
           with_reducible rfl
          rotate_left
          ·simp only [Act.put, List.setIfInBounds_toArray, List.set_cons_zero, List.set_cons_succ, i64_w, i32_w]
           rfl
          refine pure_ (i := 11) (N := some 45) (v := ?_) (a' := ?_) #[false, true, false, true, false, false, true, true, true, false, false, true, false, false, false, false, false, false] rfl rfl (any_of HT_.out (by kernel_rfl)) (fun _ _ _ h => h) (Or.inl ⟨by rfl, ?_⟩) ?_ ?_
          rotate_left
          ·intro w'
           go_simp
           with_reducible rfl
          rotate_left
          ·simp only [Act.put, List.setIfInBounds_toArray, List.set_cons_zero, List.set_cons_succ, i64_w, i32_w]
           rfl
          refine pure_ (i := 13) (N := some 47) (v := ?_) (a' := ?_) #[false, true, false, true, false, false, true, true, true, false, false, true, false, true, false, false, false, false] rfl rfl (any_of HT_.out (by kernel_rfl)) (fun _ _ _ h => h) (Or.inl ⟨by rfl, ?_⟩) ?_ ?_
          rotate_left
          ·intro w'
           go_simp
           with_reducible rfl
          rotate_left
          ·simp only [Act.put, List.setIfInBounds_toArray, List.set_cons_zero, List.set_cons_succ, i64_w, i32_w]
           rfl
          refine take_ (i := 2) (N := some 36) (v := ?_) (a' := ?_) #[false, true, true, true, false, false, true, true, true, false, false, true, false, true, false, false, false, false] rfl rfl (take_ofW HT_.out HW_.out (by kernel_rfl)) (fun _ _ _ h => h) (Or.inl ⟨by rfl, ?_⟩) hHeld ?_ ?_
          rotate_left
          ·rintro w' ⟨s0, s1, s2⟩
           go_simp
           with_reducible rfl
          rotate_left
          ·simp only [Act.put, List.setIfInBounds_toArray, List.set_cons_zero, List.set_cons_succ, i64_w, i32_w]
           rfl
          refine pure_ (i := 4) (N := some 38) (v := ?_) (a' := ?_) #[false, true, true, true, true, false, true, true, true, false, false, true, false, true, false, false, false, false] rfl rfl (any_of HT_.out (by kernel_rfl)) (fun _ _ _ h => h) (Or.inl ⟨by rfl, ?_⟩) ?_ ?_
          rotate_left
          ·intro w'
           go_simp
           with_reducible rfl
          rotate_left
          ·simp only [Act.put, List.setIfInBounds_toArray, List.set_cons_zero, List.set_cons_succ, i64_w, i32_w]
           rfl
          refine take_ (i := 12) (N := some 46) (v := ?_) (a' := ?_) #[false, true, true, true, true, false, true, true, true, false, false, true, true, true, false, false, false, false] rfl rfl (take_ofW HT_.out HW_.out (by kernel_rfl)) (fun _ _ _ h => h) (Or.inl ⟨by rfl, ?_⟩) hHeld ?_ ?_
          rotate_left
          ·rintro w' ⟨s0, s1, s2⟩
           go_simp
           with_reducible rfl
          rotate_left
          ·simp only [Act.put, List.setIfInBounds_toArray, List.set_cons_zero, List.set_cons_succ, i64_w, i32_w]
           rfl
          refine pure_ (i := 14) (N := some 48) (v := ?_) (a' := ?_) #[false, true, true, true, true, false, true, true, true, false, false, true, true, true, true, false, false, false] rfl rfl (any_of HT_.out (by kernel_rfl)) (fun _ _ _ h => h) (Or.inl ⟨by rfl, ?_⟩) ?_ ?_
          rotate_left
          ·intro w'
           go_simp
           with_reducible rfl
          rotate_left
          ·simp only [Act.put, List.setIfInBounds_toArray, List.set_cons_zero, List.set_cons_succ, i64_w, i32_w]
           rfl
          refine join_ (σ := Value × Value × Value) 4 #[true, true, true, true, true, true, true, true, true, true, false, true, true, true, true, false, false, false] (fun s_ => [(34, s_.1), (39, s_.2.1), (43, s_.2.2)]) (fun s_ w' => (w'.cell? ⟨gb246, 0, none⟩ = some (.int .i64 a0_0) ∧ w'.cell? ⟨gb246, 1, none⟩ = some (.int .i64 a0_1) ∧ w'.cell? ⟨gb246, 2, none⟩ = some (.slice A0_2 l0_2.length c0_2)) ∧ (Kd.R k123 123 w' w.heap.size (fun k_ => some k_ ≠ (s_.2.1 : Value).ownBlock ∧ some k_ ≠ (s_.2.2 : Value).ownBlock) (.slice Ao66 t257.length co66) t257) ∧ (Kd.R k123 123 w' w.heap.size (fun k_ => some k_ ≠ (.slice Ao66 t257.length co66 : Value).ownBlock ∧ some k_ ≠ (s_.2.2 : Value).ownBlock) s_.2.1 y268) ∧ (Kd.R k123 123 w' w.heap.size (fun k_ => some k_ ≠ (.slice Ao66 t257.length co66 : Value).ownBlock ∧ some k_ ≠ (s_.2.1 : Value).ownBlock) s_.2.2 y271) ∧ (w'.heap[gb246]? = some (.cells #[.int .i64 a0_0, .int .i64 a0_1, .slice A0_2 l0_2.length c0_2] 76 (0, 0))) ∧ (w'.heap[gb247]? = some (.cells #[.int .i64 0, .int .i64 0, .slice none 0 0] 76 (0, 0))) ∧ (w'.heap[gb260]? = some (.cells #[.int .i64 t255, .int .i64 t256, .slice Ao66 t257.length co66] 76 (0, 0))) ∧ (Below w.heap.size w w')) ?_ ?_
          rotate_left
          ·intro hCont
           refine two_ (i := 0) (j := 9) (Ni := some 34) (Nj := some 43) #[true, true, true, true, true, false, true, true, true, false, false, true, true, true, true, false, false, false] #[false, true, true, true, true, false, true, true, true, true, false, true, true, true, true, false, false, false] rfl rfl rfl rfl (two_of HT_.out (by kernel_rfl)) (by decide) (by decide) (fun K hK => ?_) (fun K hK => ?_)
           ·skip
            refine Kd.R_lit_step k123 _ 123 ?hg (N := 34) ?hd (xs := ([] : List (S123))) (inner := []) (ok := fun _ => True) (okp := fun _ => True) ?hr ?hp (fun _ hk => hk) trivial (Below.refl _ _) (Nat.le_refl _) (by simp) ?_; (case hd => rfl); (case hg => rfl); (case hr => exact tG); (case hp => exact (Reps.none _ _))
            intro v262 w71 ho72 hb hg_ hnew_
            clear hg_ hnew_
            (first | rw [← Ny261.out] at ho72 | (simp only [Int.reduceToNat] at ho72; rw [← Ny261.out] at ho72))
            have n0_ := Aside0.mk (Kd.R_elder' (tR HO259) (Kd.R_base ho72) hb)
            have n1_ := Aside0.mk (Kd.R_lower (Kd.R_new' ho72 (Kd.R_lt (tR HO259))) (below_size tB))
            have n2_ := Aside0.mk (blk_below (g := gb246) (o := .cells #[.int .i64 a0_0, .int .i64 a0_1, .slice A0_2 l0_2.length c0_2] 76 (0, 0)) (tK BK246) hb)
            have n3_ := Aside0.mk (blk_below (g := gb247) (o := .cells #[.int .i64 0, .int .i64 0, .slice none 0 0] 76 (0, 0)) (tK BK247) hb)
            have n4_ := Aside0.mk (blk_below (g := gb260) (o := .cells #[.int .i64 t255, .int .i64 t256, .slice Ao66 t257.length co66] 76 (0, 0)) (tK BK260) hb)
            have n5_ := Aside0.mk (below_step tB hb)
            clear HO259
            clear BK246
            clear BK247
            clear BK260
            clear HB
            have HO259 := n0_
            have HO263 := n1_
            have BK246 := n2_
            have BK247 := n3_
            have BK260 := n4_
            have HB := n5_
            clear n0_ n1_ n2_ n3_ n4_ n5_
            clear hb ho72
            refine hK.out _ _ ⟨(blk_cell BK246.out 0).trans rfl, (blk_cell BK246.out 1).trans rfl, (blk_cell BK246.out 2).trans rfl⟩ (fun hHeld => ?_)
            clear hK K
            refine norm_ (a' := ?_) ?_ ?_
            rotate_left
            ·show Act.put _ (some 34) _ = _
             simp only [Act.put, List.setIfInBounds_toArray, List.set_cons_zero, List.set_cons_succ, i64_w, i32_w]
             rfl
            refine two_ (i := 5) (j := 9) (Ni := some 39) (Nj := some 43) #[true, true, true, true, true, true, true, true, true, false, false, true, true, true, true, false, false, false] #[true, true, true, true, true, false, true, true, true, true, false, true, true, true, true, false, false, false] rfl rfl rfl rfl (two_of HT_.out (by kernel_rfl)) (by decide) (by decide) (fun K hK => ?_) (fun K hK => ?_)
            ·skip
             refine Kd.R_append_rows_step k123 (w0 := w) w.heap.size (by rfl) (.tmp 34) (.tmp 38) 74 123 (.agg #[(.int .i64 0), (.int .i64 0), (.int .i64 0), (.bool false)]) 32 rfl Try.underlying74 info123 rfl (by decide) (by omega) v262 y261 y264 _ _ _ (fun k_ => some k_ ≠ (.slice Ao66 t257.length co66 : Value).ownBlock) (fun _ => False) rfl rfl ?aO ?aR (fun _ _ h => h) (fun _ h => h.elim) ?aF ?aB ?aS ?aL ?_
             (case aR => repeat (first | exact (Kd.C_below HR267.out HB.out) | (with_reducible refine Kd.C_alloc ?_ _) | (with_reducible refine Kd.C_drewN ?_ _) | (with_reducible refine Kd.C_drew ?_)))
             (case aB => exact tB)
             (case aF => exact (fun k_ hk => Kd.fresh' (Kd.R_lt (tR HO259)) k_ hk))
             (case aO => exact (by (with_reducible repeat (first | apply Kd.R_alloc | apply Kd.R_drewN | apply Kd.R_drew)); exact Kd.R_mono HO263.out (fun _ hk => hk.2)))
             (case aS => exact (below_size tB))
             (case aL => have := LMc24.out; omega)
             intro v269 w73 ho hb hg hat
             rw [← Ny268.out] at ho
             have n0_ := Aside0.mk (blk_grown (g := gb246) (o := .cells #[.int .i64 a0_0, .int .i64 a0_1, .slice A0_2 l0_2.length c0_2] 76 (0, 0)) (tK BK246) hg (Kd.R_ne HO263.out BK246.out (by decide)))
             have n1_ := Aside0.mk (blk_grown (g := gb247) (o := .cells #[.int .i64 0, .int .i64 0, .slice none 0 0] 76 (0, 0)) (tK BK247) hg (Kd.R_ne HO263.out BK247.out (by decide)))
             have n2_ := Aside0.mk (Kd.R_after (ok := (fun _ => True)) (tR HO259) hg hat)
             have n3_ := Aside0.mk (blk_grown (g := gb260) (o := .cells #[.int .i64 t255, .int .i64 t256, .slice Ao66 t257.length co66] 76 (0, 0)) (tK BK260) hg (Kd.R_ne HO263.out BK260.out (by decide)))
             have n4_ := Aside0.mk (hb)
             have n5_ := Aside0.mk (ho)
             clear BK246
             clear BK247
             clear HO259
             clear BK260
             clear HB
             clear HO263
             have BK246 := n0_
             have BK247 := n1_
             have HO259 := n2_
             have BK260 := n3_
             have HB := n4_
             have HO270 := n5_
             clear n0_ n1_ n2_ n3_ n4_ n5_
             clear ho hb hg hat
             refine hK.out _ _ ⟨(blk_cell BK246.out 0).trans rfl, (blk_cell BK246.out 1).trans rfl, (blk_cell BK246.out 2).trans rfl⟩ (fun hHeld => ?_)
             clear hK K
             refine norm_ (a' := ?_) ?_ ?_
             rotate_left
             ·show Act.put _ (some 39) _ = _
              simp only [Act.put, List.setIfInBounds_toArray, List.set_cons_zero, List.set_cons_succ, i64_w, i32_w]
              rfl
             refine one_ (i := 9) (N := some 43) #[true, true, true, true, true, true, true, true, true, true, false, true, true, true, true, false, false, false] rfl rfl (one_of HT_.out (by kernel_rfl)) (by decide) (fun K hK => ?_)
             refine Kd.R_lit_step k123 _ 123 ?hg (N := 43) ?hd (xs := ([(⟨a1, a2, 0, false⟩ : S123)] : List (S123))) (inner := [.int .i64 a1, .int .i64 a2, .int .i64 0, .bool false]) (ok := fun _ => True) (okp := fun _ => True) ?hr ?hp (fun _ hk => hk) trivial (Below.refl _ _) (Nat.le_refl _) (by simp) ?_; (case hd => rfl); (case hg => rfl); (case hr => exact tG); (case hp => exact (Reps.c4 (show Kd.M k123 _ _ _ (⟨a1, a2, 0, false⟩ : S123) [.int .i64 a1, .int .i64 a2, .int .i64 0, .bool false] from (k123_mkM _ _ _ (⟨a1, a2, 0, false⟩ : S123) )) (Reps.none _ _)))
             intro v272 w74 ho75 hb hg_ hnew_
             clear hg_ hnew_
             (first | rw [← Ny271.out] at ho75 | (simp only [Int.reduceToNat] at ho75; rw [← Ny271.out] at ho75))
             have n0_ := Aside0.mk (Kd.R_elder' (tR HO259) (Kd.R_base ho75) hb)
             have n1_ := Aside0.mk (Kd.R_elder' (tR HO270) (Kd.R_base ho75) hb)
             have n2_ := Aside0.mk (Kd.R_lower (Kd.R_new' (Kd.R_new' ho75 (Kd.R_lt (tR HO259))) (Kd.R_lt (tR HO270))) (below_size tB))
             have n3_ := Aside0.mk (blk_below (g := gb246) (o := .cells #[.int .i64 a0_0, .int .i64 a0_1, .slice A0_2 l0_2.length c0_2] 76 (0, 0)) (tK BK246) hb)
             have n4_ := Aside0.mk (blk_below (g := gb247) (o := .cells #[.int .i64 0, .int .i64 0, .slice none 0 0] 76 (0, 0)) (tK BK247) hb)
             have n5_ := Aside0.mk (blk_below (g := gb260) (o := .cells #[.int .i64 t255, .int .i64 t256, .slice Ao66 t257.length co66] 76 (0, 0)) (tK BK260) hb)
             have n6_ := Aside0.mk (below_step tB hb)
             clear HO259
             clear HO270
             clear BK246
             clear BK247
             clear BK260
             clear HB
             have HO259 := n0_
             have HO270 := n1_
             have HO273 := n2_
             have BK246 := n3_
             have BK247 := n4_
             have BK260 := n5_
             have HB := n6_
             clear n0_ n1_ n2_ n3_ n4_ n5_ n6_
             clear hb ho75
             refine hK.out _ _ ⟨(blk_cell BK246.out 0).trans rfl, (blk_cell BK246.out 1).trans rfl, (blk_cell BK246.out 2).trans rfl⟩ (fun hHeld => ?_)
             clear hK K
             refine norm_ (a' := ?_) ?_ ?_
             rotate_left
             ·show Act.put _ (some 43) _ = _
              simp only [Act.put, List.setIfInBounds_toArray, List.set_cons_zero, List.set_cons_succ, i64_w, i32_w]
              rfl
             exact norm_ (by simp only [putAll, Act.put, List.setIfInBounds_toArray, List.set_cons_zero, List.set_cons_succ]) (hCont (v262, v269, v272) _ ⟨hHeld, (by (with_reducible repeat (first | apply Kd.R_alloc | apply Kd.R_drewN | apply Kd.R_drew)); exact Kd.R_mono HO259.out (fun _ hk => ⟨hk.1.2, hk.2⟩)), (tR HO270), (by (with_reducible repeat (first | apply Kd.R_alloc | apply Kd.R_drewN | apply Kd.R_drew)); exact Kd.R_mono HO273.out (fun _ hk => ⟨hk.1.2, hk.2⟩)), (tK BK246), (tK BK247), (tK BK260), tB⟩)
            ·skip
             refine Kd.R_lit_step k123 _ 123 ?hg (N := 43) ?hd (xs := ([(⟨a1, a2, 0, false⟩ : S123)] : List (S123))) (inner := [.int .i64 a1, .int .i64 a2, .int .i64 0, .bool false]) (ok := fun _ => True) (okp := fun _ => True) ?hr ?hp (fun _ hk => hk) trivial (Below.refl _ _) (Nat.le_refl _) (by simp) ?_; (case hd => rfl); (case hg => rfl); (case hr => exact tG); (case hp => exact (Reps.c4 (show Kd.M k123 _ _ _ (⟨a1, a2, 0, false⟩ : S123) [.int .i64 a1, .int .i64 a2, .int .i64 0, .bool false] from (k123_mkM _ _ _ (⟨a1, a2, 0, false⟩ : S123) )) (Reps.none _ _)))
             intro v272 w73 ho74 hb hg_ hnew_
             clear hg_ hnew_
             (first | rw [← Ny271.out] at ho74 | (simp only [Int.reduceToNat] at ho74; rw [← Ny271.out] at ho74))
             have n0_ := Aside0.mk (Kd.R_elder' (tR HO259) (Kd.R_base ho74) hb)
             have n1_ := Aside0.mk (Kd.R_elder' (tR HO263) (Kd.R_base ho74) hb)
             have n2_ := Aside0.mk (Kd.R_lower (Kd.R_new' (Kd.R_new' ho74 (Kd.R_lt (tR HO259))) (Kd.R_lt (tR HO263))) (below_size tB))
             have n3_ := Aside0.mk (blk_below (g := gb246) (o := .cells #[.int .i64 a0_0, .int .i64 a0_1, .slice A0_2 l0_2.length c0_2] 76 (0, 0)) (tK BK246) hb)
             have n4_ := Aside0.mk (blk_below (g := gb247) (o := .cells #[.int .i64 0, .int .i64 0, .slice none 0 0] 76 (0, 0)) (tK BK247) hb)
             have n5_ := Aside0.mk (blk_below (g := gb260) (o := .cells #[.int .i64 t255, .int .i64 t256, .slice Ao66 t257.length co66] 76 (0, 0)) (tK BK260) hb)
             have n6_ := Aside0.mk (below_step tB hb)
             clear HO259
             clear HO263
             clear BK246
             clear BK247
             clear BK260
             clear HB
             have HO259 := n0_
             have HO263 := n1_
             have HO273 := n2_
             have BK246 := n3_
             have BK247 := n4_
             have BK260 := n5_
             have HB := n6_
             clear n0_ n1_ n2_ n3_ n4_ n5_ n6_
             clear hb ho74
             refine hK.out _ _ ⟨(blk_cell BK246.out 0).trans rfl, (blk_cell BK246.out 1).trans rfl, (blk_cell BK246.out 2).trans rfl⟩ (fun hHeld => ?_)
             clear hK K
             refine norm_ (a' := ?_) ?_ ?_
             rotate_left
             ·show Act.put _ (some 43) _ = _
              simp only [Act.put, List.setIfInBounds_toArray, List.set_cons_zero, List.set_cons_succ, i64_w, i32_w]
              rfl
             refine one_ (i := 5) (N := some 39) #[true, true, true, true, true, true, true, true, true, true, false, true, true, true, true, false, false, false] rfl rfl (one_of HT_.out (by kernel_rfl)) (by decide) (fun K hK => ?_)
             refine Kd.R_append_rows_step k123 (w0 := w) w.heap.size (by rfl) (.tmp 34) (.tmp 38) 74 123 (.agg #[(.int .i64 0), (.int .i64 0), (.int .i64 0), (.bool false)]) 32 rfl Try.underlying74 info123 rfl (by decide) (by omega) v262 y261 y264 _ _ _ (fun k_ => some k_ ≠ (.slice Ao66 t257.length co66 : Value).ownBlock ∧ some k_ ≠ (v272 : Value).ownBlock) (fun _ => False) rfl rfl ?aO ?aR (fun _ _ h => h) (fun _ h => h.elim) ?aF ?aB ?aS ?aL ?_
             (case aR => repeat (first | exact (Kd.C_below HR267.out HB.out) | (with_reducible refine Kd.C_alloc ?_ _) | (with_reducible refine Kd.C_drewN ?_ _) | (with_reducible refine Kd.C_drew ?_)))
             (case aB => exact tB)
             (case aF => exact (fun k_ hk => ⟨Kd.fresh' (Kd.R_lt (tR HO259)) k_ hk, Kd.fresh' (Kd.R_lt (tR HO273)) k_ hk⟩))
             (case aO => exact (by (with_reducible repeat (first | apply Kd.R_alloc | apply Kd.R_drewN | apply Kd.R_drew)); exact Kd.R_mono HO263.out (fun _ hk => ⟨hk.1.2, hk.2⟩)))
             (case aS => exact (below_size tB))
             (case aL => have := LMc24.out; omega)
             intro v269 w75 ho hb hg hat
             rw [← Ny268.out] at ho
             have n0_ := Aside0.mk (blk_grown (g := gb246) (o := .cells #[.int .i64 a0_0, .int .i64 a0_1, .slice A0_2 l0_2.length c0_2] 76 (0, 0)) (tK BK246) hg (Kd.R_ne HO263.out BK246.out (by decide)))
             have n1_ := Aside0.mk (blk_grown (g := gb247) (o := .cells #[.int .i64 0, .int .i64 0, .slice none 0 0] 76 (0, 0)) (tK BK247) hg (Kd.R_ne HO263.out BK247.out (by decide)))
             have n2_ := Aside0.mk (Kd.R_after (ok := (fun k_ => some k_ ≠ (v272 : Value).ownBlock)) (by (with_reducible repeat (first | apply Kd.R_alloc | apply Kd.R_drewN | apply Kd.R_drew)); exact Kd.R_mono HO259.out (fun _ hk => ⟨hk.2, hk.1.2⟩)) hg hat)
             have n3_ := Aside0.mk (blk_grown (g := gb260) (o := .cells #[.int .i64 t255, .int .i64 t256, .slice Ao66 t257.length co66] 76 (0, 0)) (tK BK260) hg (Kd.R_ne HO263.out BK260.out (by decide)))
             have n4_ := Aside0.mk (Kd.R_after (ok := (fun k_ => some k_ ≠ (.slice Ao66 t257.length co66 : Value).ownBlock)) (by (with_reducible repeat (first | apply Kd.R_alloc | apply Kd.R_drewN | apply Kd.R_drew)); exact Kd.R_mono HO273.out (fun _ hk => ⟨hk.1.2, hk.2⟩)) hg hat)
             have n5_ := Aside0.mk (hb)
             have n6_ := Aside0.mk (ho)
             clear BK246
             clear BK247
             clear HO259
             clear BK260
             clear HO273
             clear HB
             clear HO263
             have BK246 := n0_
             have BK247 := n1_
             have HO259 := n2_
             have BK260 := n3_
             have HO273 := n4_
             have HB := n5_
             have HO270 := n6_
             clear n0_ n1_ n2_ n3_ n4_ n5_ n6_
             clear ho hb hg hat
             refine hK.out _ _ ⟨(blk_cell BK246.out 0).trans rfl, (blk_cell BK246.out 1).trans rfl, (blk_cell BK246.out 2).trans rfl⟩ (fun hHeld => ?_)
             clear hK K
             refine norm_ (a' := ?_) ?_ ?_
             rotate_left
             ·show Act.put _ (some 39) _ = _
              simp only [Act.put, List.setIfInBounds_toArray, List.set_cons_zero, List.set_cons_succ, i64_w, i32_w]
              rfl
             exact norm_ (by simp only [putAll, Act.put, List.setIfInBounds_toArray, List.set_cons_zero, List.set_cons_succ]) (hCont (v262, v269, v272) _ ⟨hHeld, (by (with_reducible repeat (first | apply Kd.R_alloc | apply Kd.R_drewN | apply Kd.R_drew)); exact Kd.R_mono HO259.out (fun _ hk => ⟨hk.2, hk.1⟩)), (tR HO270), (tR HO273), (tK BK246), (tK BK247), (tK BK260), tB⟩)
           ·skip
            refine Kd.R_lit_step k123 _ 123 ?hg (N := 43) ?hd (xs := ([(⟨a1, a2, 0, false⟩ : S123)] : List (S123))) (inner := [.int .i64 a1, .int .i64 a2, .int .i64 0, .bool false]) (ok := fun _ => True) (okp := fun _ => True) ?hr ?hp (fun _ hk => hk) trivial (Below.refl _ _) (Nat.le_refl _) (by simp) ?_; (case hd => rfl); (case hg => rfl); (case hr => exact tG); (case hp => exact (Reps.c4 (show Kd.M k123 _ _ _ (⟨a1, a2, 0, false⟩ : S123) [.int .i64 a1, .int .i64 a2, .int .i64 0, .bool false] from (k123_mkM _ _ _ (⟨a1, a2, 0, false⟩ : S123) )) (Reps.none _ _)))
            intro v272 w71 ho72 hb hg_ hnew_
            clear hg_ hnew_
            (first | rw [← Ny271.out] at ho72 | (simp only [Int.reduceToNat] at ho72; rw [← Ny271.out] at ho72))
            have n0_ := Aside0.mk (Kd.R_elder' (tR HO259) (Kd.R_base ho72) hb)
            have n1_ := Aside0.mk (Kd.R_lower (Kd.R_new' ho72 (Kd.R_lt (tR HO259))) (below_size tB))
            have n2_ := Aside0.mk (blk_below (g := gb246) (o := .cells #[.int .i64 a0_0, .int .i64 a0_1, .slice A0_2 l0_2.length c0_2] 76 (0, 0)) (tK BK246) hb)
            have n3_ := Aside0.mk (blk_below (g := gb247) (o := .cells #[.int .i64 0, .int .i64 0, .slice none 0 0] 76 (0, 0)) (tK BK247) hb)
            have n4_ := Aside0.mk (blk_below (g := gb260) (o := .cells #[.int .i64 t255, .int .i64 t256, .slice Ao66 t257.length co66] 76 (0, 0)) (tK BK260) hb)
            have n5_ := Aside0.mk (below_step tB hb)
            clear HO259
            clear BK246
            clear BK247
            clear BK260
            clear HB
            have HO259 := n0_
            have HO273 := n1_
            have BK246 := n2_
            have BK247 := n3_
            have BK260 := n4_
            have HB := n5_
            clear n0_ n1_ n2_ n3_ n4_ n5_
            clear hb ho72
            refine hK.out _ _ ⟨(blk_cell BK246.out 0).trans rfl, (blk_cell BK246.out 1).trans rfl, (blk_cell BK246.out 2).trans rfl⟩ (fun hHeld => ?_)
            clear hK K
            refine norm_ (a' := ?_) ?_ ?_
            rotate_left
            ·show Act.put _ (some 43) _ = _
             simp only [Act.put, List.setIfInBounds_toArray, List.set_cons_zero, List.set_cons_succ, i64_w, i32_w]
             rfl
            refine one_ (i := 0) (N := some 34) #[true, true, true, true, true, false, true, true, true, true, false, true, true, true, true, false, false, false] rfl rfl (one_of HT_.out (by kernel_rfl)) (by decide) (fun K hK => ?_)
            refine Kd.R_lit_step k123 _ 123 ?hg (N := 34) ?hd (xs := ([] : List (S123))) (inner := []) (ok := fun _ => True) (okp := fun _ => True) ?hr ?hp (fun _ hk => hk) trivial (Below.refl _ _) (Nat.le_refl _) (by simp) ?_; (case hd => rfl); (case hg => rfl); (case hr => exact tG); (case hp => exact (Reps.none _ _))
            intro v262 w73 ho74 hb hg_ hnew_
            clear hg_ hnew_
            (first | rw [← Ny261.out] at ho74 | (simp only [Int.reduceToNat] at ho74; rw [← Ny261.out] at ho74))
            have n0_ := Aside0.mk (Kd.R_elder' (tR HO259) (Kd.R_base ho74) hb)
            have n1_ := Aside0.mk (Kd.R_elder' (tR HO273) (Kd.R_base ho74) hb)
            have n2_ := Aside0.mk (Kd.R_lower (Kd.R_new' (Kd.R_new' ho74 (Kd.R_lt (tR HO259))) (Kd.R_lt (tR HO273))) (below_size tB))
            have n3_ := Aside0.mk (blk_below (g := gb246) (o := .cells #[.int .i64 a0_0, .int .i64 a0_1, .slice A0_2 l0_2.length c0_2] 76 (0, 0)) (tK BK246) hb)
            have n4_ := Aside0.mk (blk_below (g := gb247) (o := .cells #[.int .i64 0, .int .i64 0, .slice none 0 0] 76 (0, 0)) (tK BK247) hb)
            have n5_ := Aside0.mk (blk_below (g := gb260) (o := .cells #[.int .i64 t255, .int .i64 t256, .slice Ao66 t257.length co66] 76 (0, 0)) (tK BK260) hb)
            have n6_ := Aside0.mk (below_step tB hb)
            clear HO259
            clear HO273
            clear BK246
            clear BK247
            clear BK260
            clear HB
            have HO259 := n0_
            have HO273 := n1_
            have HO263 := n2_
            have BK246 := n3_
            have BK247 := n4_
            have BK260 := n5_
            have HB := n6_
            clear n0_ n1_ n2_ n3_ n4_ n5_ n6_
            clear hb ho74
            refine hK.out _ _ ⟨(blk_cell BK246.out 0).trans rfl, (blk_cell BK246.out 1).trans rfl, (blk_cell BK246.out 2).trans rfl⟩ (fun hHeld => ?_)
            clear hK K
            refine norm_ (a' := ?_) ?_ ?_
            rotate_left
            ·show Act.put _ (some 34) _ = _
             simp only [Act.put, List.setIfInBounds_toArray, List.set_cons_zero, List.set_cons_succ, i64_w, i32_w]
             rfl
            refine one_ (i := 5) (N := some 39) #[true, true, true, true, true, true, true, true, true, true, false, true, true, true, true, false, false, false] rfl rfl (one_of HT_.out (by kernel_rfl)) (by decide) (fun K hK => ?_)
            refine Kd.R_append_rows_step k123 (w0 := w) w.heap.size (by rfl) (.tmp 34) (.tmp 38) 74 123 (.agg #[(.int .i64 0), (.int .i64 0), (.int .i64 0), (.bool false)]) 32 rfl Try.underlying74 info123 rfl (by decide) (by omega) v262 y261 y264 _ _ _ (fun k_ => some k_ ≠ (.slice Ao66 t257.length co66 : Value).ownBlock ∧ some k_ ≠ (v272 : Value).ownBlock) (fun _ => False) rfl rfl ?aO ?aR (fun _ _ h => h) (fun _ h => h.elim) ?aF ?aB ?aS ?aL ?_
            (case aR => repeat (first | exact (Kd.C_below HR267.out HB.out) | (with_reducible refine Kd.C_alloc ?_ _) | (with_reducible refine Kd.C_drewN ?_ _) | (with_reducible refine Kd.C_drew ?_)))
            (case aB => exact tB)
            (case aF => exact (fun k_ hk => ⟨Kd.fresh' (Kd.R_lt (tR HO259)) k_ hk, Kd.fresh' (Kd.R_lt (tR HO273)) k_ hk⟩))
            (case aO => exact (by (with_reducible repeat (first | apply Kd.R_alloc | apply Kd.R_drewN | apply Kd.R_drew)); exact Kd.R_mono HO263.out (fun _ hk => ⟨hk.1.2, hk.2⟩)))
            (case aS => exact (below_size tB))
            (case aL => have := LMc24.out; omega)
            intro v269 w75 ho hb hg hat
            rw [← Ny268.out] at ho
            have n0_ := Aside0.mk (blk_grown (g := gb246) (o := .cells #[.int .i64 a0_0, .int .i64 a0_1, .slice A0_2 l0_2.length c0_2] 76 (0, 0)) (tK BK246) hg (Kd.R_ne HO263.out BK246.out (by decide)))
            have n1_ := Aside0.mk (blk_grown (g := gb247) (o := .cells #[.int .i64 0, .int .i64 0, .slice none 0 0] 76 (0, 0)) (tK BK247) hg (Kd.R_ne HO263.out BK247.out (by decide)))
            have n2_ := Aside0.mk (Kd.R_after (ok := (fun k_ => some k_ ≠ (v272 : Value).ownBlock)) (by (with_reducible repeat (first | apply Kd.R_alloc | apply Kd.R_drewN | apply Kd.R_drew)); exact Kd.R_mono HO259.out (fun _ hk => ⟨hk.1.2, hk.2⟩)) hg hat)
            have n3_ := Aside0.mk (blk_grown (g := gb260) (o := .cells #[.int .i64 t255, .int .i64 t256, .slice Ao66 t257.length co66] 76 (0, 0)) (tK BK260) hg (Kd.R_ne HO263.out BK260.out (by decide)))
            have n4_ := Aside0.mk (Kd.R_after (ok := (fun k_ => some k_ ≠ (.slice Ao66 t257.length co66 : Value).ownBlock)) (by (with_reducible repeat (first | apply Kd.R_alloc | apply Kd.R_drewN | apply Kd.R_drew)); exact Kd.R_mono HO273.out (fun _ hk => ⟨hk.1.2, hk.2⟩)) hg hat)
            have n5_ := Aside0.mk (hb)
            have n6_ := Aside0.mk (ho)
            clear BK246
            clear BK247
            clear HO259
            clear BK260
            clear HO273
            clear HB
            clear HO263
            have BK246 := n0_
            have BK247 := n1_
            have HO259 := n2_
            have BK260 := n3_
            have HO273 := n4_
            have HB := n5_
            have HO270 := n6_
            clear n0_ n1_ n2_ n3_ n4_ n5_ n6_
            clear ho hb hg hat
            refine hK.out _ _ ⟨(blk_cell BK246.out 0).trans rfl, (blk_cell BK246.out 1).trans rfl, (blk_cell BK246.out 2).trans rfl⟩ (fun hHeld => ?_)
            clear hK K
            refine norm_ (a' := ?_) ?_ ?_
            rotate_left
            ·show Act.put _ (some 39) _ = _
             simp only [Act.put, List.setIfInBounds_toArray, List.set_cons_zero, List.set_cons_succ, i64_w, i32_w]
             rfl
            exact norm_ (by simp only [putAll, Act.put, List.setIfInBounds_toArray, List.set_cons_zero, List.set_cons_succ]) (hCont (v262, v269, v272) _ ⟨hHeld, (by (with_reducible repeat (first | apply Kd.R_alloc | apply Kd.R_drewN | apply Kd.R_drew)); exact Kd.R_mono HO259.out (fun _ hk => ⟨hk.2, hk.1⟩)), (tR HO270), (tR HO273), (tK BK246), (tK BK247), (tK BK260), tB⟩)
          rintro ⟨v262, v269, v272⟩ w76 ⟨hS_, h0_, h1_, h2_, h3_, h4_, h5_, h6_⟩
          have n0_ : Aside0 (Kd.R k123 123 w76 w.heap.size (fun k_ => some k_ ≠ (v269 : Value).ownBlock ∧ some k_ ≠ (v272 : Value).ownBlock) (.slice Ao66 t257.length co66) t257) := ⟨h0_⟩
          have n1_ : Aside0 (Kd.R k123 123 w76 w.heap.size (fun k_ => some k_ ≠ (.slice Ao66 t257.length co66 : Value).ownBlock ∧ some k_ ≠ (v272 : Value).ownBlock) v269 y268) := ⟨h1_⟩
          have n2_ : Aside0 (Kd.R k123 123 w76 w.heap.size (fun k_ => some k_ ≠ (.slice Ao66 t257.length co66 : Value).ownBlock ∧ some k_ ≠ (v269 : Value).ownBlock) v272 y271) := ⟨h2_⟩
          have n3_ : Aside0 (w76.heap[gb246]? = some (.cells #[.int .i64 a0_0, .int .i64 a0_1, .slice A0_2 l0_2.length c0_2] 76 (0, 0))) := ⟨h3_⟩
          have n4_ : Aside0 (w76.heap[gb247]? = some (.cells #[.int .i64 0, .int .i64 0, .slice none 0 0] 76 (0, 0))) := ⟨h4_⟩
          have n5_ : Aside0 (w76.heap[gb260]? = some (.cells #[.int .i64 t255, .int .i64 t256, .slice Ao66 t257.length co66] 76 (0, 0))) := ⟨h5_⟩
          have n6_ : Aside0 (Below w.heap.size w w76) := ⟨h6_⟩
          clear HO259
          clear BK246
          clear BK247
          clear BK260
          clear HB
          clear h0_ h1_ h2_ h3_ h4_ h5_ h6_
          have HO259 := n0_
          have HO270 := n1_
          have HO273 := n2_
          have BK246 := n3_
          have BK247 := n4_
          have BK260 := n5_
          have HB := n6_
          clear n0_ n1_ n2_ n3_ n4_ n5_ n6_
          have hHeld : w76.cell? ⟨gb246, 0, none⟩ = some (.int .i64 a0_0) ∧ w76.cell? ⟨gb246, 1, none⟩ = some (.int .i64 a0_1) ∧ w76.cell? ⟨gb246, 2, none⟩ = some (.slice A0_2 l0_2.length c0_2) := hS_
          obtain ⟨Ao78, co78, eo78⟩ := Kd.R_slice HO273.out
          (first | subst eo78 | (injection eo78 with f1_ f2_ f3_; have f4_ := f1_.symm; have f5_ := f3_.symm; clear f1_ f2_ f3_; subst f4_; subst f5_))
          refine norm_ (a' := ?_) ?_ ?_
          rotate_left
          ·simp only [putAll, Act.put, List.setIfInBounds_toArray, List.set_cons_zero, List.set_cons_succ]
           rfl
          refine one_ (i := 10) (N := some 44) #[true, true, true, true, true, true, true, true, true, true, true, true, true, true, true, false, false, false] rfl rfl (one_of HT_.out (by kernel_rfl)) (by decide) (fun K hK => ?_)
          refine Kd.R_append_rows_step k123 (w0 := w) w.heap.size (by rfl) (.tmp 39) (.tmp 43) 74 123 (.agg #[(.int .i64 0), (.int .i64 0), (.int .i64 0), (.bool false)]) 32 rfl Try.underlying74 info123 rfl (by decide) (by omega) v269 y268 y271 _ _ _ (fun k_ => some k_ ≠ (.slice Ao66 t257.length co66 : Value).ownBlock ∧ some k_ ≠ (.slice Ao78 y271.length co78 : Value).ownBlock) (fun _ => False) rfl rfl ?aO ?aR (fun _ _ h => h) (fun _ h => h.elim) ?aF ?aB ?aS ?aL ?_
          (case aR => repeat (first | exact (Kd.R_reads' HO273.out).2.2 | (with_reducible refine Kd.C_alloc ?_ _) | (with_reducible refine Kd.C_drewN ?_ _) | (with_reducible refine Kd.C_drew ?_)))
          (case aB => exact tB)
          (case aF => exact (fun k_ hk => ⟨Kd.fresh' (Kd.R_lt (tR HO259)) k_ hk, Kd.fresh' (Kd.R_lt (tR HO273)) k_ hk⟩))
          (case aO => exact (tR HO270))
          (case aS => exact (below_size tB))
          (case aL => have := LMc25.out; omega)
          intro v275 w77 ho hb hg hat
          rw [← Ny274.out] at ho
          have n0_ := Aside0.mk (blk_grown (g := gb246) (o := .cells #[.int .i64 a0_0, .int .i64 a0_1, .slice A0_2 l0_2.length c0_2] 76 (0, 0)) (tK BK246) hg (Kd.R_ne HO270.out BK246.out (by decide)))
          have n1_ := Aside0.mk (blk_grown (g := gb247) (o := .cells #[.int .i64 0, .int .i64 0, .slice none 0 0] 76 (0, 0)) (tK BK247) hg (Kd.R_ne HO270.out BK247.out (by decide)))
          have n2_ := Aside0.mk (Kd.R_after (ok := (fun k_ => some k_ ≠ (.slice Ao78 y271.length co78 : Value).ownBlock)) (by (with_reducible repeat (first | apply Kd.R_alloc | apply Kd.R_drewN | apply Kd.R_drew)); exact Kd.R_mono HO259.out (fun _ hk => ⟨hk.2, hk.1⟩)) hg hat)
          have n3_ := Aside0.mk (blk_grown (g := gb260) (o := .cells #[.int .i64 t255, .int .i64 t256, .slice Ao66 t257.length co66] 76 (0, 0)) (tK BK260) hg (Kd.R_ne HO270.out BK260.out (by decide)))
          have n4_ := Aside0.mk (Kd.R_after (ok := (fun k_ => some k_ ≠ (.slice Ao66 t257.length co66 : Value).ownBlock)) (tR HO273) hg hat)
          have n5_ := Aside0.mk (hb)
          have n6_ := Aside0.mk (ho)
          clear BK246
          clear BK247
          clear HO259
          clear BK260
          clear HO273
          clear HB
          clear HO270
          have BK246 := n0_
          have BK247 := n1_
          have HO259 := n2_
          have BK260 := n3_
          have HO273 := n4_
          have HB := n5_
          have HO276 := n6_
          clear n0_ n1_ n2_ n3_ n4_ n5_ n6_
          clear ho hb hg hat
          refine hK.out _ _ ⟨(blk_cell BK246.out 0).trans rfl, (blk_cell BK246.out 1).trans rfl, (blk_cell BK246.out 2).trans rfl⟩ (fun hHeld => ?_)
          clear hK K
          refine norm_ (a' := ?_) ?_ ?_
          rotate_left
          ·show Act.put _ (some 44) _ = _
           simp only [Act.put, List.setIfInBounds_toArray, List.set_cons_zero, List.set_cons_succ, i64_w, i32_w]
           rfl
          refine one_ (i := 15) (N := some 49) #[true, true, true, true, true, true, true, true, true, true, true, true, true, true, true, true, false, false] rfl rfl (one_of HT_.out (by kernel_rfl)) (by decide) (fun K hK => ?_)
          refine Kd.R_append_rows_step k123 (w0 := w) w.heap.size (by rfl) (.tmp 44) (.tmp 48) 74 123 (.agg #[(.int .i64 0), (.int .i64 0), (.int .i64 0), (.bool false)]) 32 rfl Try.underlying74 info123 rfl (by decide) (by omega) v275 y274 y277 _ _ _ (fun k_ => some k_ ≠ (.slice Ao66 t257.length co66 : Value).ownBlock ∧ some k_ ≠ (.slice Ao78 y271.length co78 : Value).ownBlock) (fun _ => False) rfl rfl ?aO ?aR (fun _ _ h => h) (fun _ h => h.elim) ?aF ?aB ?aS ?aL ?_
          (case aR => repeat (first | exact (Kd.C_below HR280.out HB.out) | (with_reducible refine Kd.C_alloc ?_ _) | (with_reducible refine Kd.C_drewN ?_ _) | (with_reducible refine Kd.C_drew ?_)))
          (case aB => exact tB)
          (case aF => exact (fun k_ hk => ⟨Kd.fresh' (Kd.R_lt (tR HO259)) k_ hk, Kd.fresh' (Kd.R_lt (tR HO273)) k_ hk⟩))
          (case aO => exact (tR HO276))
          (case aS => exact (below_size tB))
          (case aL => have := LMc28.out; omega)
          intro v282 w79 ho hb hg hat
          rw [← Ny281.out] at ho
          have n0_ := Aside0.mk (blk_grown (g := gb246) (o := .cells #[.int .i64 a0_0, .int .i64 a0_1, .slice A0_2 l0_2.length c0_2] 76 (0, 0)) (tK BK246) hg (Kd.R_ne HO276.out BK246.out (by decide)))
          have n1_ := Aside0.mk (blk_grown (g := gb247) (o := .cells #[.int .i64 0, .int .i64 0, .slice none 0 0] 76 (0, 0)) (tK BK247) hg (Kd.R_ne HO276.out BK247.out (by decide)))
          have n2_ := Aside0.mk (Kd.R_after (ok := (fun k_ => some k_ ≠ (.slice Ao78 y271.length co78 : Value).ownBlock)) (tR HO259) hg hat)
          have n3_ := Aside0.mk (blk_grown (g := gb260) (o := .cells #[.int .i64 t255, .int .i64 t256, .slice Ao66 t257.length co66] 76 (0, 0)) (tK BK260) hg (Kd.R_ne HO276.out BK260.out (by decide)))
          have n4_ := Aside0.mk (Kd.R_after (ok := (fun k_ => some k_ ≠ (.slice Ao66 t257.length co66 : Value).ownBlock)) (tR HO273) hg hat)
          have n5_ := Aside0.mk (hb)
          have n6_ := Aside0.mk (ho)
          clear BK246
          clear BK247
          clear HO259
          clear BK260
          clear HO273
          clear HB
          clear HO276
          have BK246 := n0_
          have BK247 := n1_
          have HO259 := n2_
          have BK260 := n3_
          have HO273 := n4_
          have HB := n5_
          have HO283 := n6_
          clear n0_ n1_ n2_ n3_ n4_ n5_ n6_
          clear ho hb hg hat
          obtain ⟨Ao80, co80, eo80⟩ := Kd.R_slice HO283.out
          (first | subst eo80 | (injection eo80 with f1_ f2_ f3_; have f4_ := f1_.symm; have f5_ := f3_.symm; clear f1_ f2_ f3_; subst f4_; subst f5_))
          refine hK.out _ _ ⟨(blk_cell BK246.out 0).trans rfl, (blk_cell BK246.out 1).trans rfl, (blk_cell BK246.out 2).trans rfl⟩ (fun hHeld => ?_)
          clear hK K
          refine norm_ (a' := ?_) ?_ ?_
          rotate_left
          ·show Act.put _ (some 49) _ = _
           simp only [Act.put, List.setIfInBounds_toArray, List.set_cons_zero, List.set_cons_succ, i64_w, i32_w]
           rfl
          refine pure_ (i := 16) (N := some 50) (v := ?_) (a' := ?_) #[true, true, true, true, true, true, true, true, true, true, true, true, true, true, true, true, true, false] rfl rfl (any_of HT_.out (by kernel_rfl)) (fun _ _ _ h => h) (Or.inl ⟨by rfl, ?_⟩) ?_ ?_
          rotate_left
          ·intro w'
           go_simp
           with_reducible rfl
          rotate_left
          ·simp only [Act.put, List.setIfInBounds_toArray, List.set_cons_zero, List.set_cons_succ, i64_w, i32_w]
           rfl
          refine one_ (i := 17) (N := none) #[true, true, true, true, true, true, true, true, true, true, true, true, true, true, true, true, true, true] rfl rfl (one_of HT_.out (by kernel_rfl)) (by decide) (fun K hK => ?_)
          have hs81 : w79.cell? ⟨gb260, 2, none⟩ = some (.slice Ao66 t257.length co66) := (blk_cell BK260.out 2).trans rfl
          have hfs81 := blk_frozen BK260.out 2
          have hns81_0 := NB246_260.out
          have hns81_1 := NB247_260.out
          have hms81_0 := NB260_246.out
          have hms81_1 := NB260_247.out
          refine skip_ (w1 := ?_) (by rfl) rfl ?_ ?_
          rotate_left
          ·go_simp
           rfl
          refine hK.out _ _ ⟨((cell_far (p := ⟨gb260, _, none⟩) NB246_260.out _).trans (hHeld.1)), ((cell_far (p := ⟨gb260, _, none⟩) NB246_260.out _).trans (hHeld.2.1)), ((cell_far (p := ⟨gb260, _, none⟩) NB246_260.out _).trans (hHeld.2.2))⟩ (fun hHeld => ?_)
          clear hK K
          refine done_ (done_of HT_.out (by kernel_rfl)) ?_
          obtain ⟨hcz82_0, hcz82_1, hcz82_2, hfz82_0, hfz82_1, hfz82_2⟩ := bc3 BK260.out
          try go_wp2_with (first | ((with_reducible refine gate_callee (f := 105) rfl ?_); refine goesL_ (some 52) rfl rfl Try.func105 (by kernel_rfl) rfl #[.agg #[.int .i64 t255, .int .i64 t256, .slice Ao80 y281.length co80]] rfl tL ?_; (with_reducible refine (impl_IsValidAccount.calls kj5 t255 t256 _ _ y281 false _ ?side1 ?side2 A29.out).mono ?_); (case side1 => refine (Kd.R_reads' (e := 123) (base := w.heap.size) (ok := fun k_ => (some k_ ≠ (.slice Ao66 t257.length co66 : Value).ownBlock ∧ some k_ ≠ (.slice Ao78 y271.length co78 : Value).ownBlock)) (n := y281.length) (c := co80) ?_).2.2; exact (by (with_reducible repeat (first | apply Kd.R_alloc | apply Kd.R_drewN | apply Kd.R_drew)); exact (Kd.R_mono (Kd.R_far (p := ⟨gb260, 2, none⟩) (Kd.R_types HO283.out BK260.out (by decide)) (fun _ hk => hk.2) (.slice Ao80 y281.length co80)) (fun _ h_ => h_.1)))); (case side2 => exact (Kd.R_reads' HO283.out).2.1); rintro e w83 ⟨rfl, hb⟩; refine ⟨_, rfl, ?_⟩; have n0_ := Aside0.mk (Kd.R_below (by (with_reducible repeat (first | apply Kd.R_alloc | apply Kd.R_drewN | apply Kd.R_drew)); exact (Kd.R_mono (Kd.R_far (p := ⟨gb260, 2, none⟩) (Kd.R_types HO259.out BK260.out (by decide)) (fun _ hk => hk.2) (.slice Ao80 y281.length co80)) (fun _ h_ => h_.1))) hb); have n1_ := Aside0.mk (Kd.R_below (by (with_reducible repeat (first | apply Kd.R_alloc | apply Kd.R_drewN | apply Kd.R_drew)); exact (Kd.R_mono (Kd.R_far (p := ⟨gb260, 2, none⟩) (Kd.R_types HO273.out BK260.out (by decide)) (fun _ hk => hk.2) (.slice Ao80 y281.length co80)) (fun _ h_ => h_.1))) hb); have n2_ := Aside0.mk (Kd.R_below (by (with_reducible repeat (first | apply Kd.R_alloc | apply Kd.R_drewN | apply Kd.R_drew)); exact (Kd.R_mono (Kd.R_far (p := ⟨gb260, 2, none⟩) (Kd.R_types HO283.out BK260.out (by decide)) (fun _ hk => hk.2) (.slice Ao80 y281.length co80)) (fun _ h_ => h_.1))) hb); have n3_ := Aside0.mk (blk_below (g := gb246) (o := .cells #[.int .i64 a0_0, .int .i64 a0_1, .slice A0_2 l0_2.length c0_2] 76 (0, 0)) (by (with_reducible repeat (first | refine blk_drewN ?_ _ | refine blk_drew ?_ | refine blk_alloc ?_ _)); refine blk_far ?_ NB246_260.out _; (with_reducible repeat (first | refine blk_drewN ?_ _ | refine blk_drew ?_ | refine blk_alloc ?_ _)); exact BK246.out) hb); have n4_ := Aside0.mk (blk_below (g := gb247) (o := .cells #[.int .i64 0, .int .i64 0, .slice none 0 0] 76 (0, 0)) (by (with_reducible repeat (first | refine blk_drewN ?_ _ | refine blk_drew ?_ | refine blk_alloc ?_ _)); refine blk_far ?_ NB247_260.out _; (with_reducible repeat (first | refine blk_drewN ?_ _ | refine blk_drew ?_ | refine blk_alloc ?_ _)); exact BK247.out) hb); have n5_ := Aside0.mk (blk_below (g := gb260) (o := .cells #[.int .i64 t255, .int .i64 t256, .slice Ao80 y281.length co80] 76 (0, 0)) (by (with_reducible repeat (first | refine blk_drewN ?_ _ | refine blk_drew ?_ | refine blk_alloc ?_ _)); refine blk_put (cs := #[.int .i64 t255, .int .i64 t256, .slice Ao66 t257.length co66]) ?_ 2 _ rfl; (with_reducible repeat (first | refine blk_drewN ?_ _ | refine blk_drew ?_ | refine blk_alloc ?_ _)); exact BK260.out) hb); have n6_ := Aside0.mk (below_step tB hb); clear HO259; clear HO273; clear HO283; clear BK246; clear BK247; clear BK260; clear HB; have HO259 := n0_; have HO273 := n1_; have HO283 := n2_; have BK246 := n3_; have BK247 := n4_; have BK260 := n5_; have HB := n6_; clear n0_ n1_ n2_ n3_ n4_ n5_ n6_; (try clear hb); (try clear hb2); (try clear hk); (try clear hi); obtain ⟨hcz84_0, hcz84_1, hcz84_2, hfz84_0, hfz84_1, hfz84_2⟩ := bc3 BK246.out) | ((with_reducible refine gate_callee (f := 106) rfl ?_); refine goesL_ (some 55) rfl rfl Try.func106 (by kernel_rfl) rfl #[.agg #[.int .i64 a0_0, .int .i64 a0_1, .slice A0_2 l0_2.length c0_2]] rfl tL ?_; (with_reducible refine (impl_copyAccount.calls a0_0 a0_1 _ _ l0_2 t285 t286 t287 _ ?side1 ?side2 A58.out).mono ?_); (case side1 => repeat (first | exact (Kd.C_below HR0_2.out HB.out) | (with_reducible refine Kd.C_alloc ?_ _) | (with_reducible refine Kd.C_drewN ?_ _) | (with_reducible refine Kd.C_drew ?_))); (case side2 => exact HC0_2.out); rintro e w85 ⟨v288, rfl, ho0, hb⟩; refine ⟨_, rfl, ?_⟩; have n0_ := Aside0.mk (Kd.R_elder' (tR HO259) (Kd.R_base ho0) hb); have n1_ := Aside0.mk (Kd.R_elder' (tR HO273) (Kd.R_base ho0) hb); have n2_ := Aside0.mk (Kd.R_elder' (tR HO283) (Kd.R_base ho0) hb); have n3_ := Aside0.mk (Kd.R_lower (Kd.R_new' (Kd.R_new' (Kd.R_new' ho0 (Kd.R_lt (tR HO259))) (Kd.R_lt (tR HO273))) (Kd.R_lt (tR HO283))) (below_size tB)); have n4_ := Aside0.mk (blk_below (g := gb246) (o := .cells #[.int .i64 a0_0, .int .i64 a0_1, .slice A0_2 l0_2.length c0_2] 76 (0, 0)) (tK BK246) hb); have n5_ := Aside0.mk (blk_below (g := gb247) (o := .cells #[.int .i64 0, .int .i64 0, .slice none 0 0] 76 (0, 0)) (tK BK247) hb); have n6_ := Aside0.mk (blk_below (g := gb260) (o := .cells #[.int .i64 t255, .int .i64 t256, .slice Ao80 y281.length co80] 76 (0, 0)) (tK BK260) hb); have n7_ := Aside0.mk (below_step tB hb); clear HO259; clear HO273; clear HO283; clear BK246; clear BK247; clear BK260; clear HB; have HO259 := n0_; have HO273 := n1_; have HO283 := n2_; have HO289 := n3_; have BK246 := n4_; have BK247 := n5_; have BK260 := n6_; have HB := n7_; clear n0_ n1_ n2_ n3_ n4_ n5_ n6_ n7_; (try clear hb); (try clear hb2); (try clear hk); (try clear hi); (try clear ho0); obtain ⟨hcz86_0, hcz86_1, hcz86_2, hfz86_0, hfz86_1, hfz86_2⟩ := bc3 BK247.out; obtain ⟨Ao87, co87, eo87⟩ := Kd.R_slice HO289.out; subst eo87))
          refine bodyPost_ret (results_ct rfl _ _ gb247 76 #[.int .i64 t285, .int .i64 t286, .slice Ao87 t287.length co87] (0, 0) _ rfl (by (with_reducible repeat (first | refine blk_drewN ?_ _ | refine blk_drew ?_ | refine blk_alloc ?_ _)); refine blk_put (cs := #[.int .i64 t285, .int .i64 t286, .slice none 0 0]) ?_ 2 _ rfl; (with_reducible repeat (first | refine blk_drewN ?_ _ | refine blk_drew ?_ | refine blk_alloc ?_ _)); refine blk_put (cs := #[.int .i64 t285, .int .i64 0, .slice none 0 0]) ?_ 1 _ rfl; (with_reducible repeat (first | refine blk_drewN ?_ _ | refine blk_drew ?_ | refine blk_alloc ?_ _)); refine blk_put (cs := #[.int .i64 0, .int .i64 0, .slice none 0 0]) ?_ 0 _ rfl; (with_reducible repeat (first | refine blk_drewN ?_ _ | refine blk_drew ?_ | refine blk_alloc ?_ _)); exact BK247.out) Try.underlying76 rfl (by kernel_rfl)) rfl ?_
          exact ⟨_, tE, by (with_reducible repeat (first | apply Kd.R_alloc | apply Kd.R_drewN | apply Kd.R_drew)); exact Kd.R_mono (Kd.R_far (p := ⟨gb247, 2, none⟩) (Kd.R_far (p := ⟨gb247, 1, none⟩) (Kd.R_far (p := ⟨gb247, 0, none⟩) (Kd.R_types HO289.out BK247.out (by decide)) (fun _ hk => hk.2) (.int .i64 t285)) (fun _ hk => hk.2) (.int .i64 t286)) (fun _ hk => hk.2) (.slice Ao87 t287.length co87)) (fun _ hk => trivial), tB⟩
        ·rw [if_neg c28] at H
         exact absurd H (by simp)
       ·rw [if_neg c25] at H
        exact absurd H (by simp)
      ·rw [if_neg c24] at H
       exact absurd H (by simp)
     ·rw [if_neg c23] at H
      exact absurd H (by simp)
    ·rw [if_neg c22] at H
     exact absurd H (by simp)
 ·replace c5 := Bool.eq_false_iff.mpr c5
  subst c5
  have H1 : ((impl_copyAccount.f a0_0 a0_1 l0_2).bind fun bt249 => (some (bt249.1, bt249.2.1, bt249.2.2, false))) = some (r1, r2, r3, r4) := by rw [if_neg (show ¬ (false = true) by decide)] at H; exact H
  clear H
  have H := H1
  clear H1
  replace H := Option.bind_eq_some_iff.mp H
  obtain ⟨⟨t249, t250, t251⟩, A880, H⟩ := H
  replace H : (some (t249, t250, t251, false)) = some (r1, r2, r3, r4) := H
  have A88 := Aside0.mk A880
  clear A880
  simp only [Option.some.injEq, Prod.mk.injEq] at H
  obtain ⟨rfl, rfl, rfl, rfl⟩ := H
  go_enter Try.func107, Try.ntmps107
  go_wp2_with (first | ((with_reducible refine gate_dst (N := 3) rfl ?_); refine box_event ?hg (N := 3) ?hd (cs := #[.int .i64 a0_0, .int .i64 a0_1, .slice A0_2 l0_2.length c0_2]) (t := 76) ?hr ?_; (case hd => rfl); (case hg => rfl); (case hr => exact tG); intro gb246 hg w89 hbox hb; have n0_ := Aside0.mk (below_step tB hb); have n1_ := Aside0.mk (hbox); have n2_ := Aside0.mk ((by rw [hg]; exact (below_size tB) : w.heap.size ≤ gb246)); have n3_ := Aside0.mk ((by rw [hg]; exact (below_size tB) : w.heap.size ≤ gb246)); clear HB; have HB := n0_; have BK246 := n1_; have GW246 := n2_; have GE246 := n3_; clear n0_ n1_ n2_ n3_; clear hb hbox hg) | ((with_reducible refine gate_dst (N := 6) rfl ?_); refine box_event ?hg (N := 6) ?hd (cs := #[.int .i64 0, .int .i64 0, .slice none 0 0]) (t := 76) ?hr ?_; (case hd => rfl); (case hg => rfl); (case hr => exact tG); intro gb247 hg w90 hbox hb; have n0_ := Aside0.mk (blk_below (g := gb246) (o := .cells #[.int .i64 a0_0, .int .i64 a0_1, .slice A0_2 l0_2.length c0_2] 76 (0, 0)) (tK BK246) hb); have n1_ := Aside0.mk (below_step tB hb); have n2_ := Aside0.mk (hbox); have n3_ := Aside0.mk ((by rw [hg]; exact (below_size tB) : w.heap.size ≤ gb247)); have n4_ := Aside0.mk ((by rw [hg]; exact (below_size tB) : w.heap.size ≤ gb247)); have n5_ := Aside0.mk ((by rw [hg]; exact Nat.ne_of_lt (blk_lt (g := gb246) (o := .cells #[.int .i64 a0_0, .int .i64 a0_1, .slice A0_2 l0_2.length c0_2] 76 (0, 0)) (tK BK246)) : gb246 ≠ gb247)); have n6_ := Aside0.mk ((by rw [hg]; exact Nat.ne_of_gt (blk_lt (g := gb246) (o := .cells #[.int .i64 a0_0, .int .i64 a0_1, .slice A0_2 l0_2.length c0_2] 76 (0, 0)) (tK BK246)) : gb247 ≠ gb246)); clear BK246; clear HB; have BK246 := n0_; have HB := n1_; have BK247 := n2_; have GW247 := n3_; have GE247 := n4_; have NB246_247 := n5_; have NB247_246 := n6_; clear n0_ n1_ n2_ n3_ n4_ n5_ n6_; clear hb hbox hg; have hnb91 := NB246_247.out; have hnc91 := NB247_246.out; obtain ⟨hcz92_0, hcz92_1, hcz92_2, hfz92_0, hfz92_1, hfz92_2⟩ := bc3 BK246.out) | ((with_reducible refine gate_callee (f := 105) rfl ?_); refine goesL_ (some 11) rfl rfl Try.func105 (by kernel_rfl) rfl #[.agg #[.int .i64 a0_0, .int .i64 a0_1, .slice A0_2 l0_2.length c0_2]] rfl tL ?_; (with_reducible refine (impl_IsValidAccount.calls k a0_0 a0_1 _ _ l0_2 false _ ?side1 ?side2 A4.out).mono ?_); (case side1 => repeat (first | exact (Kd.C_below HR0_2.out HB.out) | (with_reducible refine Kd.C_alloc ?_ _) | (with_reducible refine Kd.C_drewN ?_ _) | (with_reducible refine Kd.C_drew ?_))); (case side2 => exact HC0_2.out); rintro e w93 ⟨rfl, hb⟩; refine ⟨_, rfl, ?_⟩; have n0_ := Aside0.mk (blk_below (g := gb246) (o := .cells #[.int .i64 a0_0, .int .i64 a0_1, .slice A0_2 l0_2.length c0_2] 76 (0, 0)) (tK BK246) hb); have n1_ := Aside0.mk (blk_below (g := gb247) (o := .cells #[.int .i64 0, .int .i64 0, .slice none 0 0] 76 (0, 0)) (tK BK247) hb); have n2_ := Aside0.mk (below_step tB hb); clear BK246; clear BK247; clear HB; have BK246 := n0_; have BK247 := n1_; have HB := n2_; clear n0_ n1_ n2_; (try clear hb); (try clear hb2); (try clear hk); (try clear hi); obtain ⟨hcz94_0, hcz94_1, hcz94_2, hfz94_0, hfz94_1, hfz94_2⟩ := bc3 BK246.out) | ((with_reducible refine gate_callee (f := 106) rfl ?_); refine goesL_ (some 14) rfl rfl Try.func106 (by kernel_rfl) rfl #[.agg #[.int .i64 a0_0, .int .i64 a0_1, .slice A0_2 l0_2.length c0_2]] rfl tL ?_; (with_reducible refine (impl_copyAccount.calls a0_0 a0_1 _ _ l0_2 t249 t250 t251 _ ?side1 ?side2 A88.out).mono ?_); (case side1 => repeat (first | exact (Kd.C_below HR0_2.out HB.out) | (with_reducible refine Kd.C_alloc ?_ _) | (with_reducible refine Kd.C_drewN ?_ _) | (with_reducible refine Kd.C_drew ?_))); (case side2 => exact HC0_2.out); rintro e w95 ⟨v252, rfl, ho0, hb⟩; refine ⟨_, rfl, ?_⟩; have n0_ := Aside0.mk (Kd.R_lower ho0 (below_size tB)); have n1_ := Aside0.mk (blk_below (g := gb246) (o := .cells #[.int .i64 a0_0, .int .i64 a0_1, .slice A0_2 l0_2.length c0_2] 76 (0, 0)) (tK BK246) hb); have n2_ := Aside0.mk (blk_below (g := gb247) (o := .cells #[.int .i64 0, .int .i64 0, .slice none 0 0] 76 (0, 0)) (tK BK247) hb); have n3_ := Aside0.mk (below_step tB hb); clear BK246; clear BK247; clear HB; have HO253 := n0_; have BK246 := n1_; have BK247 := n2_; have HB := n3_; clear n0_ n1_ n2_ n3_; (try clear hb); (try clear hb2); (try clear hk); (try clear hi); (try clear ho0); obtain ⟨hcz96_0, hcz96_1, hcz96_2, hfz96_0, hfz96_1, hfz96_2⟩ := bc3 BK247.out; obtain ⟨Ao97, co97, eo97⟩ := Kd.R_slice HO253.out; subst eo97))
  refine bodyPost_ret (results_ct rfl _ _ gb247 76 #[.int .i64 t249, .int .i64 t250, .slice Ao97 t251.length co97] (0, 0) _ rfl (by (with_reducible repeat (first | refine blk_drewN ?_ _ | refine blk_drew ?_ | refine blk_alloc ?_ _)); refine blk_put (cs := #[.int .i64 t249, .int .i64 t250, .slice none 0 0]) ?_ 2 _ rfl; (with_reducible repeat (first | refine blk_drewN ?_ _ | refine blk_drew ?_ | refine blk_alloc ?_ _)); refine blk_put (cs := #[.int .i64 t249, .int .i64 0, .slice none 0 0]) ?_ 1 _ rfl; (with_reducible repeat (first | refine blk_drewN ?_ _ | refine blk_drew ?_ | refine blk_alloc ?_ _)); refine blk_put (cs := #[.int .i64 0, .int .i64 0, .slice none 0 0]) ?_ 0 _ rfl; (with_reducible repeat (first | refine blk_drewN ?_ _ | refine blk_drew ?_ | refine blk_alloc ?_ _)); exact BK247.out) Try.underlying76 rfl (by kernel_rfl)) rfl ?_
  exact ⟨_, tE, by (with_reducible repeat (first | apply Kd.R_alloc | apply Kd.R_drewN | apply Kd.R_drew)); exact Kd.R_mono (Kd.R_far (p := ⟨gb247, 2, none⟩) (Kd.R_far (p := ⟨gb247, 1, none⟩) (Kd.R_far (p := ⟨gb247, 0, none⟩) (Kd.R_types HO253.out BK247.out (by decide)) (fun _ hk => hk.2) (.int .i64 t249)) (fun _ hk => hk.2) (.int .i64 t250)) (fun _ hk => hk.2) (.slice Ao97 t251.length co97)) (fun _ hk => trivial), tB⟩

end Go.Proofs.Ytjggdakbphjomaa.ZFnExactTransferAccount
