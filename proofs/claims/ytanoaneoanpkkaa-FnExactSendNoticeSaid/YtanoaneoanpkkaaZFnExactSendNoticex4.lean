/- The machine side: for each Go function a Lean function and the contract that the Go code answers as it does; printed by program (wip/tmpl/pprint.sh). -/
import Derived.Test.YtanoaneoanpkkaaZFnExactSendNoticex0
import Derived.Test.YtanoaneoanpkkaaZFnExactSendNoticex3
namespace Go.Proofs.Ytanoaneoanpkkaa.ZFnExactSendNotice
open Go.RowKit Go.Proofs.YtanoaneoanpkkaaW.PrintWords Go.Proofs.YtanoaneoanpkkaaW.PrintLast Go.Proofs.YtanoaneoanpkkaaW.PrintMore
attribute [local go_sem] max2_int min2_int max_two min_two max_three min_three max_four min_four   -- for this text's walks alone
set_option linter.unusedVariables false
set_option linter.unusedSimpArgs false

/-! ### impl_IsValidMailbox: function 71 -/
def impl_IsValidMailbox.l0 : Nat → List (S108) → Int → Int → List (S108) → Option (Bool)
 | 0, _, _, _, _ => none
 | k + 1, x10, x11, x12, x196000 => if x12 < x11 then (if 0 ≤ x12 then (if x12 < (x10.length : Int) then ((impl_InRange.f ((rd_T108 x10 x12).f0) 1 5).bind fun t198 => (if t198 = true then ((impl_InRange.f ((rd_T108 x10 x12).f1) 0 1000000).bind fun t199 => (if t199 = true then ((impl_InRange.f ((rd_T108 x10 x12).f2) 0 1000000).bind fun t200 => (if t200 = true then (if x12 > 0 then (if 0 ≤ (wrap64 (x12 - 1)) then (if (wrap64 (x12 - 1)) < (x196000.length : Int) then (if ((rd_T108 x196000 (wrap64 (x12 - 1))).f2) > ((rd_T108 x10 x12).f2) then (some false) else (impl_IsValidMailbox.l0 k x10 x11 (wrap64 (x12 + 1)) x196000)) else (none)) else (none)) else (impl_IsValidMailbox.l0 k x10 x11 (wrap64 (x12 + 1)) x196000)) else (some false))) else (some false))) else (some false))) else (none)) else (none)) else (some true)
def impl_IsValidMailbox.f (k : Nat) (l0_0 : List (S108)) : Option (Bool) := if (l0_0.length : Int) > 30 then (some false) else (impl_IsValidMailbox.l0 k l0_0 (l0_0.length : Int) 0 l0_0)
theorem impl_IsValidMailbox.mono_l : ∀ k, (∀ y0 y1 y2 y3, LeO (impl_IsValidMailbox.l0 k y0 y1 y2 y3) (impl_IsValidMailbox.l0 (k + 1) y0 y1 y2 y3))
 | 0 => fun _ _ _ _ r h => by simp [impl_IsValidMailbox.l0] at h
 | k + 1 => by
  have ih0 := impl_IsValidMailbox.mono_l k
  ·intro y0 y1 y2 y3
   unfold impl_IsValidMailbox.l0
   repeat' first
   | (with_reducible exact ih0 _ _ _ _)
   | (with_reducible exact LeO.refl _)
   | (with_reducible exact LeO.none _)
   | (with_reducible refine LeO.ite ?_ ?_)
   | (with_reducible refine LeO.bind ?_ (fun _ => ?_))
   | exact ih0 _ _ _ _
   | exact LeO.none _
   | refine LeO.ite ?_ ?_
   | refine LeO.bind ?_ (fun _ => ?_)
theorem impl_IsValidMailbox.mono : ∀ a0 k, LeO (impl_IsValidMailbox.f k a0) (impl_IsValidMailbox.f (k + 1) a0) := by
 intro a0 k
 have ih0 := impl_IsValidMailbox.mono_l k
 unfold impl_IsValidMailbox.f
 repeat' first
   | (with_reducible exact ih0 _ _ _ _)
   | (with_reducible exact LeO.refl _)
   | (with_reducible exact LeO.none _)
   | (with_reducible refine LeO.ite ?_ ?_)
   | (with_reducible refine LeO.bind ?_ (fun _ => ?_))
   | exact ih0 _ _ _ _
   | exact LeO.none _
   | refine LeO.ite ?_ ?_
   | refine LeO.bind ?_ (fun _ => ?_)
set_option maxHeartbeats 8000000 in
set_option maxRecDepth 100000 in
theorem impl_IsValidMailbox.calls (k : Nat) (A0_0 : Option Addr) (c0_0 : Nat) (l0_0 : List (S108)) (r : Bool) (w : World) (hr0_0 : Kd.C k108 w A0_0 l0_0.length l0_0) (hc0_0 : l0_0.length ≤ c0_0) (h : impl_IsValidMailbox.f k l0_0 = some r) :
  Calls Try.prog 71 #[.agg #[.slice A0_0 l0_0.length c0_0]] w fun e w' => e = .returned (.bool r) ∧ Below w.heap.size w w' := by
 have hu65 := Try.underlying65
 have hu108 := Try.underlying108
 have HR0_0 := Aside0.mk hr0_0
 have HC0_0 := Aside0.mk hc0_0
 clear hr0_0 hc0_0
 have HB := Aside0.mk (Below.refl w.heap.size w)
 have H : (if (l0_0.length : Int) > 30 then (some false) else (impl_IsValidMailbox.l0 k l0_0 (l0_0.length : Int) 0 l0_0)) = some r := h
 clear h
 by_cases c2 : (l0_0.length : Int) > 30
 ·rw [if_pos c2] at H
  have c2b0 : decide (30 < (l0_0.length : Int)) = true := decide_eq_true c2
  have c2b1 : decide (30 < l0_0.length) = true := decide_eq_true (by omega)
  clear c2
  obtain rfl := Option.some.inj H
  go_enter Try.func71, Try.ntmps71
  go_wp2_with (first | ((with_reducible refine gate_dst (N := 1) rfl ?_); refine box_event ?hg (N := 1) ?hd (cs := #[.slice A0_0 l0_0.length c0_0]) (t := 65) ?hr ?_; (case hd => rfl); (case hg => rfl); (case hr => exact tG); intro gb195 hg w3 hbox hb; have BK195 := Aside0.mk (hbox); have GW195 := gW HB hg; have GE195 := gW HB hg; replace HB := bH HB hb; clear hb hbox hg; obtain ⟨hcz4_0, hfz4_0⟩ := bc1 BK195.out))
  repeat (go_quiet (first | ((with_reducible refine gate_dst (N := 1) rfl ?_); refine box_event ?hg (N := 1) ?hd (cs := #[.slice A0_0 l0_0.length c0_0]) (t := 65) ?hr ?_; (case hd => rfl); (case hg => rfl); (case hr => exact tG); intro gb195 hg w3 hbox hb; have BK195 := Aside0.mk (hbox); have GW195 := gW HB hg; have GE195 := gW HB hg; replace HB := bH HB hb; clear hb hbox hg; obtain ⟨hcz4_0, hfz4_0⟩ := bc1 BK195.out)); try go_wp2_with (first | ((with_reducible refine gate_dst (N := 1) rfl ?_); refine box_event ?hg (N := 1) ?hd (cs := #[.slice A0_0 l0_0.length c0_0]) (t := 65) ?hr ?_; (case hd => rfl); (case hg => rfl); (case hr => exact tG); intro gb195 hg w3 hbox hb; have BK195 := Aside0.mk (hbox); have GW195 := gW HB hg; have GE195 := gW HB hg; replace HB := bH HB hb; clear hb hbox hg; obtain ⟨hcz4_0, hfz4_0⟩ := bc1 BK195.out)))
  go_ret
  exact ⟨tE, tB⟩
 rw [if_neg c2] at H
 have c2b0 : decide (30 < (l0_0.length : Int)) = false := decide_eq_false c2
 have c2b1 : decide (30 < l0_0.length) = false := decide_eq_false (by omega)
 clear c2
 have H' := Aside0.mk H
 clear H
 go_enter Try.func71, Try.ntmps71
 go_wp2_with (first | ((with_reducible refine gate_dst (N := 1) rfl ?_); refine box_event ?hg (N := 1) ?hd (cs := #[.slice A0_0 l0_0.length c0_0]) (t := 65) ?hr ?_; (case hd => rfl); (case hg => rfl); (case hr => exact tG); intro gb195 hg w5 hbox hb; have BK195 := Aside0.mk (hbox); have GW195 := gW HB hg; have GE195 := gW HB hg; replace HB := bH HB hb; clear hb hbox hg; obtain ⟨hcz6_0, hfz6_0⟩ := bc1 BK195.out))
 repeat (go_quiet (first | ((with_reducible refine gate_dst (N := 1) rfl ?_); refine box_event ?hg (N := 1) ?hd (cs := #[.slice A0_0 l0_0.length c0_0]) (t := 65) ?hr ?_; (case hd => rfl); (case hg => rfl); (case hr => exact tG); intro gb195 hg w5 hbox hb; have BK195 := Aside0.mk (hbox); have GW195 := gW HB hg; have GE195 := gW HB hg; replace HB := bH HB hb; clear hb hbox hg; obtain ⟨hcz6_0, hfz6_0⟩ := bc1 BK195.out)); try go_wp2_with (first | ((with_reducible refine gate_dst (N := 1) rfl ?_); refine box_event ?hg (N := 1) ?hd (cs := #[.slice A0_0 l0_0.length c0_0]) (t := 65) ?hr ?_; (case hd => rfl); (case hg => rfl); (case hr => exact tG); intro gb195 hg w5 hbox hb; have BK195 := Aside0.mk (hbox); have GW195 := gW HB hg; have GE195 := gW HB hg; replace HB := bH HB hb; clear hb hbox hg; obtain ⟨hcz6_0, hfz6_0⟩ := bc1 BK195.out)))
 go_loopg [12] k (fun kq v12 w' => ∃ (x12_1 : Int), v12 = .int .i64 x12_1 ∧ Aside0 (impl_IsValidMailbox.l0 kq l0_0 (l0_0.length : Int) x12_1 l0_0 = some r) ∧ Aside0 (kq ≤ k) ∧ Aside0 (w'.heap[gb195]? = some (.cells #[(.slice A0_0 l0_0.length c0_0)] 65 (0, 0))) ∧ Aside0 (Below w.heap.size w w'))
 case atStart => exact ⟨(0), tS, H', ⟨Nat.le_refl _⟩, ⟨tK BK195⟩, ⟨tB⟩⟩
 case round =>
  clear H'
  try clear c2
  try clear c2b0
  try clear c2b1
  try clear p2
  try clear hcz4_0
  try clear hcz6_0
  try clear hfz4_0
  try clear hfz6_0
  obtain ⟨x12_1, rfl, HA, HK1, BK195, HB⟩ := hrel
  cases gk with
  | zero => exact absurd HA.out (by simp [impl_IsValidMailbox.l0])
  | succ k1 =>
   have H := HA.out
   clear HA
   simp only [impl_IsValidMailbox.l0] at H
   by_cases c7 : x12_1 < (l0_0.length : Int)
   ·rw [if_pos c7] at H
    have c7b0 : decide (x12_1 < (l0_0.length : Int)) = true := decide_eq_true c7
    clear c7
    by_cases c8 : 0 ≤ x12_1
    ·rw [if_pos c8] at H
     have c8b0 : decide (0 ≤ x12_1) = true := decide_eq_true c8
     clear c8
     by_cases c9 : x12_1 < (l0_0.length : Int)
     ·rw [if_pos c9] at H
      have c9b0 : decide (x12_1 < (l0_0.length : Int)) = true := decide_eq_true c9
      clear c9
      replace H := Option.bind_eq_some_iff.mp H
      obtain ⟨t198, A100, H⟩ := H
      try dsimp only at H
      have A10 := Aside0.mk A100
      clear A100
      by_cases c11 : t198 = true
      ·subst c11
       have H1 : ((impl_InRange.f ((rd_T108 l0_0 x12_1).f1) 0 1000000).bind fun t199 => (if t199 = true then ((impl_InRange.f ((rd_T108 l0_0 x12_1).f2) 0 1000000).bind fun t200 => (if t200 = true then (if x12_1 > 0 then (if 0 ≤ (wrap64 (x12_1 - 1)) then (if (wrap64 (x12_1 - 1)) < (l0_0.length : Int) then (if ((rd_T108 l0_0 (wrap64 (x12_1 - 1))).f2) > ((rd_T108 l0_0 x12_1).f2) then (some false) else (impl_IsValidMailbox.l0 k1 l0_0 (l0_0.length : Int) (wrap64 (x12_1 + 1)) l0_0)) else (none)) else (none)) else (impl_IsValidMailbox.l0 k1 l0_0 (l0_0.length : Int) (wrap64 (x12_1 + 1)) l0_0)) else (some false))) else (some false))) = some r := by rw [if_pos rfl] at H; exact H
       clear H
       have H := H1
       clear H1
       replace H := Option.bind_eq_some_iff.mp H
       obtain ⟨t199, A120, H⟩ := H
       try dsimp only at H
       have A12 := Aside0.mk A120
       clear A120
       by_cases c13 : t199 = true
       ·subst c13
        have H1 : ((impl_InRange.f ((rd_T108 l0_0 x12_1).f2) 0 1000000).bind fun t200 => (if t200 = true then (if x12_1 > 0 then (if 0 ≤ (wrap64 (x12_1 - 1)) then (if (wrap64 (x12_1 - 1)) < (l0_0.length : Int) then (if ((rd_T108 l0_0 (wrap64 (x12_1 - 1))).f2) > ((rd_T108 l0_0 x12_1).f2) then (some false) else (impl_IsValidMailbox.l0 k1 l0_0 (l0_0.length : Int) (wrap64 (x12_1 + 1)) l0_0)) else (none)) else (none)) else (impl_IsValidMailbox.l0 k1 l0_0 (l0_0.length : Int) (wrap64 (x12_1 + 1)) l0_0)) else (some false))) = some r := by rw [if_pos rfl] at H; exact H
        clear H
        have H := H1
        clear H1
        replace H := Option.bind_eq_some_iff.mp H
        obtain ⟨t200, A140, H⟩ := H
        try dsimp only at H
        have A14 := Aside0.mk A140
        clear A140
        by_cases c15 : t200 = true
        ·subst c15
         have H1 : (if x12_1 > 0 then (if 0 ≤ (wrap64 (x12_1 - 1)) then (if (wrap64 (x12_1 - 1)) < (l0_0.length : Int) then (if ((rd_T108 l0_0 (wrap64 (x12_1 - 1))).f2) > ((rd_T108 l0_0 x12_1).f2) then (some false) else (impl_IsValidMailbox.l0 k1 l0_0 (l0_0.length : Int) (wrap64 (x12_1 + 1)) l0_0)) else (none)) else (none)) else (impl_IsValidMailbox.l0 k1 l0_0 (l0_0.length : Int) (wrap64 (x12_1 + 1)) l0_0)) = some r := by rw [if_pos rfl] at H; exact H
         clear H
         have H := H1
         clear H1
         by_cases c16 : x12_1 > 0
         ·rw [if_pos c16] at H
          have c16b0 : decide (0 < x12_1) = true := decide_eq_true c16
          clear c16
          obtain ⟨ji17, hji17⟩ : ∃ j_ : Int, (wrap64 (x12_1 - 1)) = j_ := ⟨_, rfl⟩
          replace H : (if 0 ≤ (ji17) then (if (ji17) < (l0_0.length : Int) then (if ((rd_T108 l0_0 (ji17)).f2) > ((rd_T108 l0_0 x12_1).f2) then (some false) else (impl_IsValidMailbox.l0 k1 l0_0 (l0_0.length : Int) (wrap64 (x12_1 + 1)) l0_0)) else (none)) else (none)) = some r := by first | (rw [hji17] at H; exact H) | (simp only [hji17] at H ⊢; exact H)
          (try rw [hji17] at A10)
          (try rw [hji17] at A12)
          (try rw [hji17] at A14)
          have hji17w : (IntKind.i64.wrap (x12_1 - 1)) = ji17 := (i64_w _).trans hji17
          by_cases c18 : 0 ≤ (ji17)
          ·rw [if_pos c18] at H
           have c18b0 : decide (0 ≤ (ji17)) = true := decide_eq_true c18
           clear c18
           by_cases c19 : (ji17) < (l0_0.length : Int)
           ·rw [if_pos c19] at H
            have c19b0 : decide ((ji17) < (l0_0.length : Int)) = true := decide_eq_true c19
            clear c19
            by_cases c20 : ((rd_T108 l0_0 (ji17)).f2) > ((rd_T108 l0_0 x12_1).f2)
            ·rw [if_pos c20] at H
             have c20b0 : decide (((rd_T108 l0_0 x12_1).f2) < ((rd_T108 l0_0 (ji17)).f2)) = true := decide_eq_true c20
             clear c20
             obtain rfl := Option.some.inj H
             have p196 : 0 ≤ (x12_1 : Int) := of_decide_eq_true tA
             have q196 : x12_1 < (l0_0.length : Int) := of_decide_eq_true tA
             obtain ⟨ad196, e196, hx196_0, hx196_1, hx196_2, hx196_3⟩ := at_T108 HR0_0.out x12_1 p196 q196
             cases e196
             replace hx196_0 := hbc HB hx196_0
             replace hx196_1 := hbc HB hx196_1
             replace hx196_2 := hbc HB hx196_2
             replace hx196_3 := hbc HB hx196_3
             replace p196 := eq_true p196
             replace q196 := eq_true q196
             go_wp2_with (first | ((with_reducible refine gate_dst (N := 4) rfl ?_); refine box_event ?hg (N := 4) ?hd (cs := #[.int .i64 0, .int .i64 0, .int .i64 0, .bool false]) (t := 108) ?hr ?_; (case hd => rfl); (case hg => rfl); (case hr => exact tG); intro gb197 hg w21 hbox hb; have BK197 := Aside0.mk (hbox); have GW197 := gW HB hg; have GE197 := gW HB hg; replace HB := bH HB hb; have NB195_197 := nL BK195 hg; have NB197_195 := nR BK195 hg; replace BK195 := bB BK195 hb; clear hb hbox hg; have hnb22 := NB197_195.out; have hnc22 := NB195_197.out; obtain ⟨hcz23_0, hcz23_1, hcz23_2, hcz23_3, hfz23_0, hfz23_1, hfz23_2, hfz23_3⟩ := bc4 BK197.out) | (go_at_call 81; (with_reducible refine (impl_InRange.calls ((rd_T108 l0_0 x12_1).f0) 1 5 true _ A10.out).mono ?_); rintro e w' ⟨rfl, ⟨nd, rfl⟩⟩; (try exact tQ)) | (go_at_call 81; (with_reducible refine (impl_InRange.calls ((rd_T108 l0_0 x12_1).f1) 0 1000000 true _ A12.out).mono ?_); rintro e w' ⟨rfl, ⟨nd, rfl⟩⟩; (try exact tQ)) | (go_at_call 81; (with_reducible refine (impl_InRange.calls ((rd_T108 l0_0 x12_1).f2) 0 1000000 true _ A14.out).mono ?_); rintro e w' ⟨rfl, ⟨nd, rfl⟩⟩; (try exact tQ)))
             obtain ⟨hcz24_0, hfz24_0⟩ := bc1 BK195.out
             have p201 : 0 ≤ ((ji17) : Int) := of_decide_eq_true tA
             have q201 : (ji17) < (l0_0.length : Int) := of_decide_eq_true tA
             obtain ⟨ad201, e201, hx201_0, hx201_1, hx201_2, hx201_3⟩ := at_T108 HR0_0.out (ji17) p201 q201
             obtain rfl : ad196 = ad201 := (by injection e201)
             have hn201_0 : ad196.block ≠ gb197 := Nat.ne_of_lt (Nat.lt_of_lt_of_le (by have := World.block_lt_of_cell? _ _ hx201_0; first | rwa [add_block] at this | exact this) GW197.out)
             have hn201_1 : ad196.block ≠ gb197 := Nat.ne_of_lt (Nat.lt_of_lt_of_le (by have := World.block_lt_of_cell? _ _ hx201_0; first | rwa [add_block] at this | exact this) GW197.out)
             have hn201_2 : ad196.block ≠ gb197 := Nat.ne_of_lt (Nat.lt_of_lt_of_le (by have := World.block_lt_of_cell? _ _ hx201_0; first | rwa [add_block] at this | exact this) GW197.out)
             have hn201_3 : ad196.block ≠ gb197 := Nat.ne_of_lt (Nat.lt_of_lt_of_le (by have := World.block_lt_of_cell? _ _ hx201_0; first | rwa [add_block] at this | exact this) GW197.out)
             replace hx201_0 := hbc HB hx201_0
             replace hx201_1 := hbc HB hx201_1
             replace hx201_2 := hbc HB hx201_2
             replace hx201_3 := hbc HB hx201_3
             have F_ := @far4 gb197 (.int .i64 ((rd_T108 l0_0 x12_1).f0)) (.int .i64 ((rd_T108 l0_0 x12_1).f1)) (.int .i64 ((rd_T108 l0_0 x12_1).f2)) (.bool ((rd_T108 l0_0 x12_1).f3))
             replace hx201_0 := (F_ tF).trans hx201_0
             replace hx201_1 := (F_ tF).trans hx201_1
             replace hx201_2 := (F_ tF).trans hx201_2
             replace hx201_3 := (F_ tF).trans hx201_3
             clear F_
             clear hn201_0
             clear hn201_1
             clear hn201_2
             clear hn201_3
             replace p201 := eq_true p201
             replace q201 := eq_true q201
             repeat (go_quiet (first | ((with_reducible refine gate_dst (N := 4) rfl ?_); refine box_event ?hg (N := 4) ?hd (cs := #[.int .i64 0, .int .i64 0, .int .i64 0, .bool false]) (t := 108) ?hr ?_; (case hd => rfl); (case hg => rfl); (case hr => exact tG); intro gb197 hg w21 hbox hb; have BK197 := Aside0.mk (hbox); have GW197 := gW HB hg; have GE197 := gW HB hg; replace HB := bH HB hb; have NB195_197 := nL BK195 hg; have NB197_195 := nR BK195 hg; replace BK195 := bB BK195 hb; clear hb hbox hg; have hnb22 := NB197_195.out; have hnc22 := NB195_197.out; obtain ⟨hcz23_0, hcz23_1, hcz23_2, hcz23_3, hfz23_0, hfz23_1, hfz23_2, hfz23_3⟩ := bc4 BK197.out) | (go_at_call 81; (with_reducible refine (impl_InRange.calls ((rd_T108 l0_0 x12_1).f0) 1 5 true _ A10.out).mono ?_); rintro e w' ⟨rfl, ⟨nd, rfl⟩⟩; (try exact tQ)) | (go_at_call 81; (with_reducible refine (impl_InRange.calls ((rd_T108 l0_0 x12_1).f1) 0 1000000 true _ A12.out).mono ?_); rintro e w' ⟨rfl, ⟨nd, rfl⟩⟩; (try exact tQ)) | (go_at_call 81; (with_reducible refine (impl_InRange.calls ((rd_T108 l0_0 x12_1).f2) 0 1000000 true _ A14.out).mono ?_); rintro e w' ⟨rfl, ⟨nd, rfl⟩⟩; (try exact tQ))); try go_wp2_with (first | ((with_reducible refine gate_dst (N := 4) rfl ?_); refine box_event ?hg (N := 4) ?hd (cs := #[.int .i64 0, .int .i64 0, .int .i64 0, .bool false]) (t := 108) ?hr ?_; (case hd => rfl); (case hg => rfl); (case hr => exact tG); intro gb197 hg w21 hbox hb; have BK197 := Aside0.mk (hbox); have GW197 := gW HB hg; have GE197 := gW HB hg; replace HB := bH HB hb; have NB195_197 := nL BK195 hg; have NB197_195 := nR BK195 hg; replace BK195 := bB BK195 hb; clear hb hbox hg; have hnb22 := NB197_195.out; have hnc22 := NB195_197.out; obtain ⟨hcz23_0, hcz23_1, hcz23_2, hcz23_3, hfz23_0, hfz23_1, hfz23_2, hfz23_3⟩ := bc4 BK197.out) | (go_at_call 81; (with_reducible refine (impl_InRange.calls ((rd_T108 l0_0 x12_1).f0) 1 5 true _ A10.out).mono ?_); rintro e w' ⟨rfl, ⟨nd, rfl⟩⟩; (try exact tQ)) | (go_at_call 81; (with_reducible refine (impl_InRange.calls ((rd_T108 l0_0 x12_1).f1) 0 1000000 true _ A12.out).mono ?_); rintro e w' ⟨rfl, ⟨nd, rfl⟩⟩; (try exact tQ)) | (go_at_call 81; (with_reducible refine (impl_InRange.calls ((rd_T108 l0_0 x12_1).f2) 0 1000000 true _ A14.out).mono ?_); rintro e w' ⟨rfl, ⟨nd, rfl⟩⟩; (try exact tQ))))
             go_ret
             exact ⟨by first | rfl | (simp [errW_none, errW_some] <;> rfl) | (simp only [← hji17]; first | rfl | (simp [errW_none, errW_some] <;> rfl)) | (simp [*, errW_none, errW_some] <;> rfl), tB⟩
            rw [if_neg c20] at H
            have c20b0 : decide (((rd_T108 l0_0 x12_1).f2) < ((rd_T108 l0_0 (ji17)).f2)) = false := decide_eq_false c20
            clear c20
            have H' := Aside0.mk H
            clear H
            have p196 : 0 ≤ (x12_1 : Int) := of_decide_eq_true tA
            have q196 : x12_1 < (l0_0.length : Int) := of_decide_eq_true tA
            obtain ⟨ad196, e196, hx196_0, hx196_1, hx196_2, hx196_3⟩ := at_T108 HR0_0.out x12_1 p196 q196
            cases e196
            replace hx196_0 := hbc HB hx196_0
            replace hx196_1 := hbc HB hx196_1
            replace hx196_2 := hbc HB hx196_2
            replace hx196_3 := hbc HB hx196_3
            replace p196 := eq_true p196
            replace q196 := eq_true q196
            go_wp2_with (first | ((with_reducible refine gate_dst (N := 4) rfl ?_); refine box_event ?hg (N := 4) ?hd (cs := #[.int .i64 0, .int .i64 0, .int .i64 0, .bool false]) (t := 108) ?hr ?_; (case hd => rfl); (case hg => rfl); (case hr => exact tG); intro gb197 hg w25 hbox hb; have BK197 := Aside0.mk (hbox); have GW197 := gW HB hg; have GE197 := gW HB hg; replace HB := bH HB hb; have NB195_197 := nL BK195 hg; have NB197_195 := nR BK195 hg; replace BK195 := bB BK195 hb; clear hb hbox hg; have hnb26 := NB197_195.out; have hnc26 := NB195_197.out; obtain ⟨hcz27_0, hcz27_1, hcz27_2, hcz27_3, hfz27_0, hfz27_1, hfz27_2, hfz27_3⟩ := bc4 BK197.out) | (go_at_call 81; (with_reducible refine (impl_InRange.calls ((rd_T108 l0_0 x12_1).f0) 1 5 true _ A10.out).mono ?_); rintro e w' ⟨rfl, ⟨nd, rfl⟩⟩; (try exact tQ)) | (go_at_call 81; (with_reducible refine (impl_InRange.calls ((rd_T108 l0_0 x12_1).f1) 0 1000000 true _ A12.out).mono ?_); rintro e w' ⟨rfl, ⟨nd, rfl⟩⟩; (try exact tQ)) | (go_at_call 81; (with_reducible refine (impl_InRange.calls ((rd_T108 l0_0 x12_1).f2) 0 1000000 true _ A14.out).mono ?_); rintro e w' ⟨rfl, ⟨nd, rfl⟩⟩; (try exact tQ)))
            obtain ⟨hcz28_0, hfz28_0⟩ := bc1 BK195.out
            have p201 : 0 ≤ ((ji17) : Int) := of_decide_eq_true tA
            have q201 : (ji17) < (l0_0.length : Int) := of_decide_eq_true tA
            obtain ⟨ad201, e201, hx201_0, hx201_1, hx201_2, hx201_3⟩ := at_T108 HR0_0.out (ji17) p201 q201
            obtain rfl : ad196 = ad201 := (by injection e201)
            have hn201_0 : ad196.block ≠ gb197 := Nat.ne_of_lt (Nat.lt_of_lt_of_le (by have := World.block_lt_of_cell? _ _ hx201_0; first | rwa [add_block] at this | exact this) GW197.out)
            have hn201_1 : ad196.block ≠ gb197 := Nat.ne_of_lt (Nat.lt_of_lt_of_le (by have := World.block_lt_of_cell? _ _ hx201_0; first | rwa [add_block] at this | exact this) GW197.out)
            have hn201_2 : ad196.block ≠ gb197 := Nat.ne_of_lt (Nat.lt_of_lt_of_le (by have := World.block_lt_of_cell? _ _ hx201_0; first | rwa [add_block] at this | exact this) GW197.out)
            have hn201_3 : ad196.block ≠ gb197 := Nat.ne_of_lt (Nat.lt_of_lt_of_le (by have := World.block_lt_of_cell? _ _ hx201_0; first | rwa [add_block] at this | exact this) GW197.out)
            replace hx201_0 := hbc HB hx201_0
            replace hx201_1 := hbc HB hx201_1
            replace hx201_2 := hbc HB hx201_2
            replace hx201_3 := hbc HB hx201_3
            have F_ := @far4 gb197 (.int .i64 ((rd_T108 l0_0 x12_1).f0)) (.int .i64 ((rd_T108 l0_0 x12_1).f1)) (.int .i64 ((rd_T108 l0_0 x12_1).f2)) (.bool ((rd_T108 l0_0 x12_1).f3))
            replace hx201_0 := (F_ tF).trans hx201_0
            replace hx201_1 := (F_ tF).trans hx201_1
            replace hx201_2 := (F_ tF).trans hx201_2
            replace hx201_3 := (F_ tF).trans hx201_3
            clear F_
            clear hn201_0
            clear hn201_1
            clear hn201_2
            clear hn201_3
            replace p201 := eq_true p201
            replace q201 := eq_true q201
            repeat (go_quiet (first | ((with_reducible refine gate_dst (N := 4) rfl ?_); refine box_event ?hg (N := 4) ?hd (cs := #[.int .i64 0, .int .i64 0, .int .i64 0, .bool false]) (t := 108) ?hr ?_; (case hd => rfl); (case hg => rfl); (case hr => exact tG); intro gb197 hg w25 hbox hb; have BK197 := Aside0.mk (hbox); have GW197 := gW HB hg; have GE197 := gW HB hg; replace HB := bH HB hb; have NB195_197 := nL BK195 hg; have NB197_195 := nR BK195 hg; replace BK195 := bB BK195 hb; clear hb hbox hg; have hnb26 := NB197_195.out; have hnc26 := NB195_197.out; obtain ⟨hcz27_0, hcz27_1, hcz27_2, hcz27_3, hfz27_0, hfz27_1, hfz27_2, hfz27_3⟩ := bc4 BK197.out) | (go_at_call 81; (with_reducible refine (impl_InRange.calls ((rd_T108 l0_0 x12_1).f0) 1 5 true _ A10.out).mono ?_); rintro e w' ⟨rfl, ⟨nd, rfl⟩⟩; (try exact tQ)) | (go_at_call 81; (with_reducible refine (impl_InRange.calls ((rd_T108 l0_0 x12_1).f1) 0 1000000 true _ A12.out).mono ?_); rintro e w' ⟨rfl, ⟨nd, rfl⟩⟩; (try exact tQ)) | (go_at_call 81; (with_reducible refine (impl_InRange.calls ((rd_T108 l0_0 x12_1).f2) 0 1000000 true _ A14.out).mono ?_); rintro e w' ⟨rfl, ⟨nd, rfl⟩⟩; (try exact tQ))); try go_wp2_with (first | ((with_reducible refine gate_dst (N := 4) rfl ?_); refine box_event ?hg (N := 4) ?hd (cs := #[.int .i64 0, .int .i64 0, .int .i64 0, .bool false]) (t := 108) ?hr ?_; (case hd => rfl); (case hg => rfl); (case hr => exact tG); intro gb197 hg w25 hbox hb; have BK197 := Aside0.mk (hbox); have GW197 := gW HB hg; have GE197 := gW HB hg; replace HB := bH HB hb; have NB195_197 := nL BK195 hg; have NB197_195 := nR BK195 hg; replace BK195 := bB BK195 hb; clear hb hbox hg; have hnb26 := NB197_195.out; have hnc26 := NB195_197.out; obtain ⟨hcz27_0, hcz27_1, hcz27_2, hcz27_3, hfz27_0, hfz27_1, hfz27_2, hfz27_3⟩ := bc4 BK197.out) | (go_at_call 81; (with_reducible refine (impl_InRange.calls ((rd_T108 l0_0 x12_1).f0) 1 5 true _ A10.out).mono ?_); rintro e w' ⟨rfl, ⟨nd, rfl⟩⟩; (try exact tQ)) | (go_at_call 81; (with_reducible refine (impl_InRange.calls ((rd_T108 l0_0 x12_1).f1) 0 1000000 true _ A12.out).mono ?_); rintro e w' ⟨rfl, ⟨nd, rfl⟩⟩; (try exact tQ)) | (go_at_call 81; (with_reducible refine (impl_InRange.calls ((rd_T108 l0_0 x12_1).f2) 0 1000000 true _ A14.out).mono ?_); rintro e w' ⟨rfl, ⟨nd, rfl⟩⟩; (try exact tQ))))
            go_roundg k1
            case measure => have := HK1.out; omega
            case rel => exact ⟨(wrap64 (x12_1 + 1)), tS, H', ⟨tI⟩, ⟨kF NB195_197 BK195⟩, ⟨tB⟩⟩
           rw [if_neg c19] at H
           exact absurd H (by simp)
          rw [if_neg c18] at H
          exact absurd H (by simp)
         rw [if_neg c16] at H
         have c16b0 : decide (0 < x12_1) = false := decide_eq_false c16
         clear c16
         have H' := Aside0.mk H
         clear H
         have p196 : 0 ≤ (x12_1 : Int) := of_decide_eq_true tA
         have q196 : x12_1 < (l0_0.length : Int) := of_decide_eq_true tA
         obtain ⟨ad196, e196, hx196_0, hx196_1, hx196_2, hx196_3⟩ := at_T108 HR0_0.out x12_1 p196 q196
         cases e196
         replace hx196_0 := hbc HB hx196_0
         replace hx196_1 := hbc HB hx196_1
         replace hx196_2 := hbc HB hx196_2
         replace hx196_3 := hbc HB hx196_3
         replace p196 := eq_true p196
         replace q196 := eq_true q196
         go_wp2_with (first | ((with_reducible refine gate_dst (N := 4) rfl ?_); refine box_event ?hg (N := 4) ?hd (cs := #[.int .i64 0, .int .i64 0, .int .i64 0, .bool false]) (t := 108) ?hr ?_; (case hd => rfl); (case hg => rfl); (case hr => exact tG); intro gb197 hg w29 hbox hb; have BK197 := Aside0.mk (hbox); have GW197 := gW HB hg; have GE197 := gW HB hg; replace HB := bH HB hb; have NB195_197 := nL BK195 hg; have NB197_195 := nR BK195 hg; replace BK195 := bB BK195 hb; clear hb hbox hg; have hnb30 := NB197_195.out; have hnc30 := NB195_197.out; obtain ⟨hcz31_0, hcz31_1, hcz31_2, hcz31_3, hfz31_0, hfz31_1, hfz31_2, hfz31_3⟩ := bc4 BK197.out) | (go_at_call 81; (with_reducible refine (impl_InRange.calls ((rd_T108 l0_0 x12_1).f0) 1 5 true _ A10.out).mono ?_); rintro e w' ⟨rfl, ⟨nd, rfl⟩⟩; (try exact tQ)) | (go_at_call 81; (with_reducible refine (impl_InRange.calls ((rd_T108 l0_0 x12_1).f1) 0 1000000 true _ A12.out).mono ?_); rintro e w' ⟨rfl, ⟨nd, rfl⟩⟩; (try exact tQ)) | (go_at_call 81; (with_reducible refine (impl_InRange.calls ((rd_T108 l0_0 x12_1).f2) 0 1000000 true _ A14.out).mono ?_); rintro e w' ⟨rfl, ⟨nd, rfl⟩⟩; (try exact tQ)))
         repeat (go_quiet (first | ((with_reducible refine gate_dst (N := 4) rfl ?_); refine box_event ?hg (N := 4) ?hd (cs := #[.int .i64 0, .int .i64 0, .int .i64 0, .bool false]) (t := 108) ?hr ?_; (case hd => rfl); (case hg => rfl); (case hr => exact tG); intro gb197 hg w29 hbox hb; have BK197 := Aside0.mk (hbox); have GW197 := gW HB hg; have GE197 := gW HB hg; replace HB := bH HB hb; have NB195_197 := nL BK195 hg; have NB197_195 := nR BK195 hg; replace BK195 := bB BK195 hb; clear hb hbox hg; have hnb30 := NB197_195.out; have hnc30 := NB195_197.out; obtain ⟨hcz31_0, hcz31_1, hcz31_2, hcz31_3, hfz31_0, hfz31_1, hfz31_2, hfz31_3⟩ := bc4 BK197.out) | (go_at_call 81; (with_reducible refine (impl_InRange.calls ((rd_T108 l0_0 x12_1).f0) 1 5 true _ A10.out).mono ?_); rintro e w' ⟨rfl, ⟨nd, rfl⟩⟩; (try exact tQ)) | (go_at_call 81; (with_reducible refine (impl_InRange.calls ((rd_T108 l0_0 x12_1).f1) 0 1000000 true _ A12.out).mono ?_); rintro e w' ⟨rfl, ⟨nd, rfl⟩⟩; (try exact tQ)) | (go_at_call 81; (with_reducible refine (impl_InRange.calls ((rd_T108 l0_0 x12_1).f2) 0 1000000 true _ A14.out).mono ?_); rintro e w' ⟨rfl, ⟨nd, rfl⟩⟩; (try exact tQ))); try go_wp2_with (first | ((with_reducible refine gate_dst (N := 4) rfl ?_); refine box_event ?hg (N := 4) ?hd (cs := #[.int .i64 0, .int .i64 0, .int .i64 0, .bool false]) (t := 108) ?hr ?_; (case hd => rfl); (case hg => rfl); (case hr => exact tG); intro gb197 hg w29 hbox hb; have BK197 := Aside0.mk (hbox); have GW197 := gW HB hg; have GE197 := gW HB hg; replace HB := bH HB hb; have NB195_197 := nL BK195 hg; have NB197_195 := nR BK195 hg; replace BK195 := bB BK195 hb; clear hb hbox hg; have hnb30 := NB197_195.out; have hnc30 := NB195_197.out; obtain ⟨hcz31_0, hcz31_1, hcz31_2, hcz31_3, hfz31_0, hfz31_1, hfz31_2, hfz31_3⟩ := bc4 BK197.out) | (go_at_call 81; (with_reducible refine (impl_InRange.calls ((rd_T108 l0_0 x12_1).f0) 1 5 true _ A10.out).mono ?_); rintro e w' ⟨rfl, ⟨nd, rfl⟩⟩; (try exact tQ)) | (go_at_call 81; (with_reducible refine (impl_InRange.calls ((rd_T108 l0_0 x12_1).f1) 0 1000000 true _ A12.out).mono ?_); rintro e w' ⟨rfl, ⟨nd, rfl⟩⟩; (try exact tQ)) | (go_at_call 81; (with_reducible refine (impl_InRange.calls ((rd_T108 l0_0 x12_1).f2) 0 1000000 true _ A14.out).mono ?_); rintro e w' ⟨rfl, ⟨nd, rfl⟩⟩; (try exact tQ))))
         go_roundg k1
         case measure => have := HK1.out; omega
         case rel => exact ⟨(wrap64 (x12_1 + 1)), tS, H', ⟨tI⟩, ⟨kF NB195_197 BK195⟩, ⟨tB⟩⟩
        replace c15 := Bool.eq_false_iff.mpr c15
        subst c15
        have H1 : (some false) = some r := by rw [if_neg (show ¬ (false = true) by decide)] at H; exact H
        clear H
        have H := H1
        clear H1
        obtain rfl := Option.some.inj H
        have p196 : 0 ≤ (x12_1 : Int) := of_decide_eq_true tA
        have q196 : x12_1 < (l0_0.length : Int) := of_decide_eq_true tA
        obtain ⟨ad196, e196, hx196_0, hx196_1, hx196_2, hx196_3⟩ := at_T108 HR0_0.out x12_1 p196 q196
        cases e196
        replace hx196_0 := hbc HB hx196_0
        replace hx196_1 := hbc HB hx196_1
        replace hx196_2 := hbc HB hx196_2
        replace hx196_3 := hbc HB hx196_3
        replace p196 := eq_true p196
        replace q196 := eq_true q196
        go_wp2_with (first | ((with_reducible refine gate_dst (N := 4) rfl ?_); refine box_event ?hg (N := 4) ?hd (cs := #[.int .i64 0, .int .i64 0, .int .i64 0, .bool false]) (t := 108) ?hr ?_; (case hd => rfl); (case hg => rfl); (case hr => exact tG); intro gb197 hg w32 hbox hb; have BK197 := Aside0.mk (hbox); have GW197 := gW HB hg; have GE197 := gW HB hg; replace HB := bH HB hb; have NB195_197 := nL BK195 hg; have NB197_195 := nR BK195 hg; replace BK195 := bB BK195 hb; clear hb hbox hg; have hnb33 := NB197_195.out; have hnc33 := NB195_197.out; obtain ⟨hcz34_0, hcz34_1, hcz34_2, hcz34_3, hfz34_0, hfz34_1, hfz34_2, hfz34_3⟩ := bc4 BK197.out) | (go_at_call 81; (with_reducible refine (impl_InRange.calls ((rd_T108 l0_0 x12_1).f0) 1 5 true _ A10.out).mono ?_); rintro e w' ⟨rfl, ⟨nd, rfl⟩⟩; (try exact tQ)) | (go_at_call 81; (with_reducible refine (impl_InRange.calls ((rd_T108 l0_0 x12_1).f1) 0 1000000 true _ A12.out).mono ?_); rintro e w' ⟨rfl, ⟨nd, rfl⟩⟩; (try exact tQ)) | (go_at_call 81; (with_reducible refine (impl_InRange.calls ((rd_T108 l0_0 x12_1).f2) 0 1000000 false _ A14.out).mono ?_); rintro e w' ⟨rfl, ⟨nd, rfl⟩⟩; (try exact tQ)))
        repeat (go_quiet (first | ((with_reducible refine gate_dst (N := 4) rfl ?_); refine box_event ?hg (N := 4) ?hd (cs := #[.int .i64 0, .int .i64 0, .int .i64 0, .bool false]) (t := 108) ?hr ?_; (case hd => rfl); (case hg => rfl); (case hr => exact tG); intro gb197 hg w32 hbox hb; have BK197 := Aside0.mk (hbox); have GW197 := gW HB hg; have GE197 := gW HB hg; replace HB := bH HB hb; have NB195_197 := nL BK195 hg; have NB197_195 := nR BK195 hg; replace BK195 := bB BK195 hb; clear hb hbox hg; have hnb33 := NB197_195.out; have hnc33 := NB195_197.out; obtain ⟨hcz34_0, hcz34_1, hcz34_2, hcz34_3, hfz34_0, hfz34_1, hfz34_2, hfz34_3⟩ := bc4 BK197.out) | (go_at_call 81; (with_reducible refine (impl_InRange.calls ((rd_T108 l0_0 x12_1).f0) 1 5 true _ A10.out).mono ?_); rintro e w' ⟨rfl, ⟨nd, rfl⟩⟩; (try exact tQ)) | (go_at_call 81; (with_reducible refine (impl_InRange.calls ((rd_T108 l0_0 x12_1).f1) 0 1000000 true _ A12.out).mono ?_); rintro e w' ⟨rfl, ⟨nd, rfl⟩⟩; (try exact tQ)) | (go_at_call 81; (with_reducible refine (impl_InRange.calls ((rd_T108 l0_0 x12_1).f2) 0 1000000 false _ A14.out).mono ?_); rintro e w' ⟨rfl, ⟨nd, rfl⟩⟩; (try exact tQ))); try go_wp2_with (first | ((with_reducible refine gate_dst (N := 4) rfl ?_); refine box_event ?hg (N := 4) ?hd (cs := #[.int .i64 0, .int .i64 0, .int .i64 0, .bool false]) (t := 108) ?hr ?_; (case hd => rfl); (case hg => rfl); (case hr => exact tG); intro gb197 hg w32 hbox hb; have BK197 := Aside0.mk (hbox); have GW197 := gW HB hg; have GE197 := gW HB hg; replace HB := bH HB hb; have NB195_197 := nL BK195 hg; have NB197_195 := nR BK195 hg; replace BK195 := bB BK195 hb; clear hb hbox hg; have hnb33 := NB197_195.out; have hnc33 := NB195_197.out; obtain ⟨hcz34_0, hcz34_1, hcz34_2, hcz34_3, hfz34_0, hfz34_1, hfz34_2, hfz34_3⟩ := bc4 BK197.out) | (go_at_call 81; (with_reducible refine (impl_InRange.calls ((rd_T108 l0_0 x12_1).f0) 1 5 true _ A10.out).mono ?_); rintro e w' ⟨rfl, ⟨nd, rfl⟩⟩; (try exact tQ)) | (go_at_call 81; (with_reducible refine (impl_InRange.calls ((rd_T108 l0_0 x12_1).f1) 0 1000000 true _ A12.out).mono ?_); rintro e w' ⟨rfl, ⟨nd, rfl⟩⟩; (try exact tQ)) | (go_at_call 81; (with_reducible refine (impl_InRange.calls ((rd_T108 l0_0 x12_1).f2) 0 1000000 false _ A14.out).mono ?_); rintro e w' ⟨rfl, ⟨nd, rfl⟩⟩; (try exact tQ))))
        go_ret
        exact ⟨tE, tB⟩
       replace c13 := Bool.eq_false_iff.mpr c13
       subst c13
       have H1 : (some false) = some r := by rw [if_neg (show ¬ (false = true) by decide)] at H; exact H
       clear H
       have H := H1
       clear H1
       obtain rfl := Option.some.inj H
       have p196 : 0 ≤ (x12_1 : Int) := of_decide_eq_true tA
       have q196 : x12_1 < (l0_0.length : Int) := of_decide_eq_true tA
       obtain ⟨ad196, e196, hx196_0, hx196_1, hx196_2, hx196_3⟩ := at_T108 HR0_0.out x12_1 p196 q196
       cases e196
       replace hx196_0 := hbc HB hx196_0
       replace hx196_1 := hbc HB hx196_1
       replace hx196_2 := hbc HB hx196_2
       replace hx196_3 := hbc HB hx196_3
       replace p196 := eq_true p196
       replace q196 := eq_true q196
       go_wp2_with (first | ((with_reducible refine gate_dst (N := 4) rfl ?_); refine box_event ?hg (N := 4) ?hd (cs := #[.int .i64 0, .int .i64 0, .int .i64 0, .bool false]) (t := 108) ?hr ?_; (case hd => rfl); (case hg => rfl); (case hr => exact tG); intro gb197 hg w35 hbox hb; have BK197 := Aside0.mk (hbox); have GW197 := gW HB hg; have GE197 := gW HB hg; replace HB := bH HB hb; have NB195_197 := nL BK195 hg; have NB197_195 := nR BK195 hg; replace BK195 := bB BK195 hb; clear hb hbox hg; have hnb36 := NB197_195.out; have hnc36 := NB195_197.out; obtain ⟨hcz37_0, hcz37_1, hcz37_2, hcz37_3, hfz37_0, hfz37_1, hfz37_2, hfz37_3⟩ := bc4 BK197.out) | (go_at_call 81; (with_reducible refine (impl_InRange.calls ((rd_T108 l0_0 x12_1).f0) 1 5 true _ A10.out).mono ?_); rintro e w' ⟨rfl, ⟨nd, rfl⟩⟩; (try exact tQ)) | (go_at_call 81; (with_reducible refine (impl_InRange.calls ((rd_T108 l0_0 x12_1).f1) 0 1000000 false _ A12.out).mono ?_); rintro e w' ⟨rfl, ⟨nd, rfl⟩⟩; (try exact tQ)))
       repeat (go_quiet (first | ((with_reducible refine gate_dst (N := 4) rfl ?_); refine box_event ?hg (N := 4) ?hd (cs := #[.int .i64 0, .int .i64 0, .int .i64 0, .bool false]) (t := 108) ?hr ?_; (case hd => rfl); (case hg => rfl); (case hr => exact tG); intro gb197 hg w35 hbox hb; have BK197 := Aside0.mk (hbox); have GW197 := gW HB hg; have GE197 := gW HB hg; replace HB := bH HB hb; have NB195_197 := nL BK195 hg; have NB197_195 := nR BK195 hg; replace BK195 := bB BK195 hb; clear hb hbox hg; have hnb36 := NB197_195.out; have hnc36 := NB195_197.out; obtain ⟨hcz37_0, hcz37_1, hcz37_2, hcz37_3, hfz37_0, hfz37_1, hfz37_2, hfz37_3⟩ := bc4 BK197.out) | (go_at_call 81; (with_reducible refine (impl_InRange.calls ((rd_T108 l0_0 x12_1).f0) 1 5 true _ A10.out).mono ?_); rintro e w' ⟨rfl, ⟨nd, rfl⟩⟩; (try exact tQ)) | (go_at_call 81; (with_reducible refine (impl_InRange.calls ((rd_T108 l0_0 x12_1).f1) 0 1000000 false _ A12.out).mono ?_); rintro e w' ⟨rfl, ⟨nd, rfl⟩⟩; (try exact tQ))); try go_wp2_with (first | ((with_reducible refine gate_dst (N := 4) rfl ?_); refine box_event ?hg (N := 4) ?hd (cs := #[.int .i64 0, .int .i64 0, .int .i64 0, .bool false]) (t := 108) ?hr ?_; (case hd => rfl); (case hg => rfl); (case hr => exact tG); intro gb197 hg w35 hbox hb; have BK197 := Aside0.mk (hbox); have GW197 := gW HB hg; have GE197 := gW HB hg; replace HB := bH HB hb; have NB195_197 := nL BK195 hg; have NB197_195 := nR BK195 hg; replace BK195 := bB BK195 hb; clear hb hbox hg; have hnb36 := NB197_195.out; have hnc36 := NB195_197.out; obtain ⟨hcz37_0, hcz37_1, hcz37_2, hcz37_3, hfz37_0, hfz37_1, hfz37_2, hfz37_3⟩ := bc4 BK197.out) | (go_at_call 81; (with_reducible refine (impl_InRange.calls ((rd_T108 l0_0 x12_1).f0) 1 5 true _ A10.out).mono ?_); rintro e w' ⟨rfl, ⟨nd, rfl⟩⟩; (try exact tQ)) | (go_at_call 81; (with_reducible refine (impl_InRange.calls ((rd_T108 l0_0 x12_1).f1) 0 1000000 false _ A12.out).mono ?_); rintro e w' ⟨rfl, ⟨nd, rfl⟩⟩; (try exact tQ))))
       go_ret
       exact ⟨tE, tB⟩
      replace c11 := Bool.eq_false_iff.mpr c11
      subst c11
      have H1 : (some false) = some r := by rw [if_neg (show ¬ (false = true) by decide)] at H; exact H
      clear H
      have H := H1
      clear H1
      obtain rfl := Option.some.inj H
      have p196 : 0 ≤ (x12_1 : Int) := of_decide_eq_true tA
      have q196 : x12_1 < (l0_0.length : Int) := of_decide_eq_true tA
      obtain ⟨ad196, e196, hx196_0, hx196_1, hx196_2, hx196_3⟩ := at_T108 HR0_0.out x12_1 p196 q196
      cases e196
      replace hx196_0 := hbc HB hx196_0
      replace hx196_1 := hbc HB hx196_1
      replace hx196_2 := hbc HB hx196_2
      replace hx196_3 := hbc HB hx196_3
      replace p196 := eq_true p196
      replace q196 := eq_true q196
      go_wp2_with (first | ((with_reducible refine gate_dst (N := 4) rfl ?_); refine box_event ?hg (N := 4) ?hd (cs := #[.int .i64 0, .int .i64 0, .int .i64 0, .bool false]) (t := 108) ?hr ?_; (case hd => rfl); (case hg => rfl); (case hr => exact tG); intro gb197 hg w38 hbox hb; have BK197 := Aside0.mk (hbox); have GW197 := gW HB hg; have GE197 := gW HB hg; replace HB := bH HB hb; have NB195_197 := nL BK195 hg; have NB197_195 := nR BK195 hg; replace BK195 := bB BK195 hb; clear hb hbox hg; have hnb39 := NB197_195.out; have hnc39 := NB195_197.out; obtain ⟨hcz40_0, hcz40_1, hcz40_2, hcz40_3, hfz40_0, hfz40_1, hfz40_2, hfz40_3⟩ := bc4 BK197.out) | (go_at_call 81; (with_reducible refine (impl_InRange.calls ((rd_T108 l0_0 x12_1).f0) 1 5 false _ A10.out).mono ?_); rintro e w' ⟨rfl, ⟨nd, rfl⟩⟩; (try exact tQ)))
      repeat (go_quiet (first | ((with_reducible refine gate_dst (N := 4) rfl ?_); refine box_event ?hg (N := 4) ?hd (cs := #[.int .i64 0, .int .i64 0, .int .i64 0, .bool false]) (t := 108) ?hr ?_; (case hd => rfl); (case hg => rfl); (case hr => exact tG); intro gb197 hg w38 hbox hb; have BK197 := Aside0.mk (hbox); have GW197 := gW HB hg; have GE197 := gW HB hg; replace HB := bH HB hb; have NB195_197 := nL BK195 hg; have NB197_195 := nR BK195 hg; replace BK195 := bB BK195 hb; clear hb hbox hg; have hnb39 := NB197_195.out; have hnc39 := NB195_197.out; obtain ⟨hcz40_0, hcz40_1, hcz40_2, hcz40_3, hfz40_0, hfz40_1, hfz40_2, hfz40_3⟩ := bc4 BK197.out) | (go_at_call 81; (with_reducible refine (impl_InRange.calls ((rd_T108 l0_0 x12_1).f0) 1 5 false _ A10.out).mono ?_); rintro e w' ⟨rfl, ⟨nd, rfl⟩⟩; (try exact tQ))); try go_wp2_with (first | ((with_reducible refine gate_dst (N := 4) rfl ?_); refine box_event ?hg (N := 4) ?hd (cs := #[.int .i64 0, .int .i64 0, .int .i64 0, .bool false]) (t := 108) ?hr ?_; (case hd => rfl); (case hg => rfl); (case hr => exact tG); intro gb197 hg w38 hbox hb; have BK197 := Aside0.mk (hbox); have GW197 := gW HB hg; have GE197 := gW HB hg; replace HB := bH HB hb; have NB195_197 := nL BK195 hg; have NB197_195 := nR BK195 hg; replace BK195 := bB BK195 hb; clear hb hbox hg; have hnb39 := NB197_195.out; have hnc39 := NB195_197.out; obtain ⟨hcz40_0, hcz40_1, hcz40_2, hcz40_3, hfz40_0, hfz40_1, hfz40_2, hfz40_3⟩ := bc4 BK197.out) | (go_at_call 81; (with_reducible refine (impl_InRange.calls ((rd_T108 l0_0 x12_1).f0) 1 5 false _ A10.out).mono ?_); rintro e w' ⟨rfl, ⟨nd, rfl⟩⟩; (try exact tQ))))
      go_ret
      exact ⟨tE, tB⟩
     rw [if_neg c9] at H
     exact absurd H (by simp)
    rw [if_neg c8] at H
    exact absurd H (by simp)
   rw [if_neg c7] at H
   have c7b0 : decide (x12_1 < (l0_0.length : Int)) = false := decide_eq_false c7
   clear c7
   obtain rfl := Option.some.inj H
   go_wp2
   repeat (go_quiet (fail); try go_wp2)
   go_ret
   exact ⟨tE, tB⟩

/-! ### impl_copyMail: function 95 -/
def impl_copyMail.f (l0_0 : List (S108)) : Option ((List (S108))) := (some (([] : List (S108)) : List (S108))).bind fun y204 => (if y204.length + l0_0.length < 4398046511104 then (some (y204 ++ l0_0)) else (none))
set_option maxHeartbeats 8000000 in
set_option maxRecDepth 100000 in
theorem impl_copyMail.calls (A0_0 : Option Addr) (c0_0 : Nat) (l0_0 : List (S108)) (r : List (S108)) (w : World) (hr0_0 : Kd.C k108 w A0_0 l0_0.length l0_0) (hc0_0 : l0_0.length ≤ c0_0) (h : impl_copyMail.f l0_0 = some r) :
  Calls Try.prog 95 #[.agg #[.slice A0_0 l0_0.length c0_0]] w fun e w' => ∃ v0_ : Value, e = .returned (.agg #[v0_]) ∧ Kd.R k108 108 w' w.heap.size (fun _ => True) v0_ r ∧ Below w.heap.size w w' := by
 have hu65 := Try.underlying65
 have HR0_0 := Aside0.mk hr0_0
 have HC0_0 := Aside0.mk hc0_0
 clear hr0_0 hc0_0
 have HB := Aside0.mk (Below.refl w.heap.size w)
 have H : ((some (([] : List (S108)) : List (S108))).bind fun y204 => (if y204.length + l0_0.length < 4398046511104 then (some (y204 ++ l0_0)) else (none))) = some r := h
 clear h
 obtain ⟨y204, hy204⟩ : ∃ y_ : List (S108), y_ = (([] : List (S108))) := ⟨_, rfl⟩
 replace H : (if y204.length + l0_0.length < 4398046511104 then (some (y204 ++ l0_0)) else (none)) = some r := by first | (rw [hy204]; with_reducible exact H) | (have H2_ := (Option.bind_some _ _).symm.trans H; rw [hy204]; with_reducible exact H2_) | (have H2_ := (Option.bind_some _ _).symm.trans H; with_reducible exact H2_) | with_reducible exact H | (rw [hy204]; exact H) | exact H
 have Ny204 := Aside0.mk hy204
 clear hy204
 by_cases c2 : y204.length + l0_0.length < 4398046511104
 ·rw [if_pos c2] at H
  have LMc2 := Aside0.mk c2
  clear c2
  obtain ⟨y207, hy207⟩ : ∃ y_ : List (S108), y_ = (y204 ++ l0_0) := ⟨_, rfl⟩
  replace H : (some y207) = some r := by first | (rw [hy207]; with_reducible exact H) | (have H2_ := (Option.bind_some _ _).symm.trans H; rw [hy207]; with_reducible exact H2_) | (have H2_ := (Option.bind_some _ _).symm.trans H; with_reducible exact H2_) | with_reducible exact H | (rw [hy207]; exact H) | exact H
  have Ny207 := Aside0.mk hy207
  clear hy207
  obtain rfl := Option.some.inj H
  go_enter Try.func95, Try.ntmps95
  go_wp2_with (first | ((with_reducible refine gate_dst (N := 1) rfl ?_); refine box_event ?hg (N := 1) ?hd (cs := #[.slice A0_0 l0_0.length c0_0]) (t := 65) ?hr ?_; (case hd => rfl); (case hg => rfl); (case hr => exact tG); intro gb202 hg w3 hbox hb; have BK202 := Aside0.mk (hbox); have GW202 := gW HB hg; have GE202 := gW HB hg; replace HB := bH HB hb; clear hb hbox hg) | ((with_reducible refine gate_dst (N := 2) rfl ?_); refine box_event ?hg (N := 2) ?hd (cs := #[.slice none 0 0]) (t := 65) ?hr ?_; (case hd => rfl); (case hg => rfl); (case hr => exact tG); intro gb203 hg w4 hbox hb; have BK203 := Aside0.mk (hbox); have GW203 := gW HB hg; have GE203 := gW HB hg; replace HB := bH HB hb; have NB202_203 := nL BK202 hg; have NB203_202 := nR BK202 hg; replace BK202 := bB BK202 hb; clear hb hbox hg) | ((with_reducible refine gate_dst (N := 3) rfl ?_); refine Kd.R_lit k108 _ 108 ?hg (N := 3) ?hd (xs := ([] : List (S108))) (inner := []) (ok := fun _ => True) (okp := fun _ => True) ?hr ?hp (fun _ hk => hk) trivial (Below.refl _ _) (Nat.le_refl _) (by simp) ?_; (case hd => rfl); (case hg => rfl); (case hr => exact tG); (case hp => exact (Reps.none _ _)); intro v205 w5 ho6 hb hg_ hnew_; clear hg_ hnew_; (first | rw [← Ny204.out] at ho6 | (simp only [Int.reduceToNat] at ho6; rw [← Ny204.out] at ho6)); have HO206 := Aside0.mk (Kd.R_lower ho6 (below_size tB)); replace BK202 := bB BK202 hb; replace BK203 := bB BK203 hb; replace HB := bH HB hb; clear hb ho6; have hnb7 := NB202_203.out; have hnc7 := NB203_202.out; obtain ⟨hcz8_0, hfz8_0⟩ := bc1 BK202.out) | ((with_reducible refine gate_builtin (b := .append) (xs := #[.tmp 3, .tmp 5]) rfl ?_); at_builtin; refine Kd.R_append_rows k108 (w0 := w) w.heap.size rfl (.tmp 3) (.tmp 5) 63 108 (.agg #[(.int .i64 0), (.int .i64 0), (.int .i64 0), (.bool false)]) 32 rfl Try.underlying63 info108 rfl (by decide) (by omega) v205 y204 l0_0 _ _ _ (fun _ => True) (fun _ => False) rfl rfl ?aO ?aR (fun _ _ h => h) (fun _ h => h.elim) ?aF ?aB ?aS ?aL ?_; (case aR => repeat (first | exact (Kd.C_below HR0_0.out HB.out) | (with_reducible refine Kd.C_alloc ?_ _) | (with_reducible refine Kd.C_drewN ?_ _) | (with_reducible refine Kd.C_drew ?_))); (case aB => exact tB); (case aF => exact (fun _ _ => trivial)); (case aO => exact (tR HO206)); (case aS => exact (below_size tB)); (case aL => have := LMc2.out; omega); intro v208 w9 ho hb hg hat; rw [← Ny207.out] at ho; replace BK202 := Aside0.mk (blk_grown (g := gb202) (o := .cells #[.slice A0_0 l0_0.length c0_0] 65 (0, 0)) (tK BK202) hg (Kd.R_ne HO206.out BK202.out (by decide))); replace BK203 := Aside0.mk (blk_grown (g := gb203) (o := .cells #[.slice none 0 0] 65 (0, 0)) (tK BK203) hg (Kd.R_ne HO206.out BK203.out (by decide))); replace HB := Aside0.mk (hb); have HO209 := Aside0.mk (ho); clear HO206; clear ho hb hg hat; obtain ⟨Ao10, co10, eo10⟩ := Kd.R_slice HO209.out; subst eo10; obtain ⟨hcz11_0, hfz11_0⟩ := bc1 BK203.out))
  refine bodyPost_ret (results_cell_row rfl _ _ gb203 65 #[.slice Ao10 y207.length co10] (0, 0) _ rfl (by (with_reducible repeat (first | refine blk_drewN ?_ _ | refine blk_drew ?_ | refine blk_alloc ?_ _)); refine blk_put (cs := #[.slice none 0 0]) ?_ 0 _ rfl; (with_reducible repeat (first | refine blk_drewN ?_ _ | refine blk_drew ?_ | refine blk_alloc ?_ _)); exact BK203.out) Try.underlying65 rfl (by kernel_rfl)) rfl ?_
  exact ⟨_, tE, by (with_reducible repeat (first | apply Kd.R_alloc | apply Kd.R_drewN | apply Kd.R_drew)); exact Kd.R_mono (Kd.R_far (p := ⟨gb203, 0, none⟩) (Kd.R_types HO209.out BK203.out (by decide)) (fun _ hk => hk.2) (.slice Ao10 y207.length co10)) (fun _ hk => trivial), tB⟩
 rw [if_neg c2] at H
 exact absurd H (by simp)

end Go.Proofs.Ytanoaneoanpkkaa.ZFnExactSendNotice
