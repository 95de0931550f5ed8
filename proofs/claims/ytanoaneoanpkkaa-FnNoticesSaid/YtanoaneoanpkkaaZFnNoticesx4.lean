/- The machine side: for each Go function a Lean function and the contract that the Go code answers as it does; printed by program (wip/tmpl/pprint.sh). -/
import Derived.Test.YtanoaneoanpkkaaZFnNoticesx0
import Derived.Test.YtanoaneoanpkkaaZFnNoticesx3
namespace Go.Proofs.Ytanoaneoanpkkaa.ZFnNotices
open Go.RowKit Go.Proofs.YtanoaneoanpkkaaW.PrintWords Go.Proofs.YtanoaneoanpkkaaW.PrintLast Go.Proofs.YtanoaneoanpkkaaW.PrintMore
attribute [local go_sem] max2_int min2_int max_two min_two max_three min_three max_four min_four   -- for this text's walks alone
set_option linter.unusedVariables false
set_option linter.unusedSimpArgs false

/-! ### impl_IsValidMailbox: function 71 -/
def impl_IsValidMailbox.l0 : Nat → List (S108) → Int → Int → List (S108) → Option (Bool)
 | 0, _, _, _, _ => none
 | k + 1, x10, x11, x12, x179000 => if x12 < x11 then (if 0 ≤ x12 then (if x12 < (x10.length : Int) then ((impl_InRange.f ((rd_T108 x10 x12).f0) 1 5).bind fun t181 => (if t181 = true then ((impl_InRange.f ((rd_T108 x10 x12).f1) 0 1000000).bind fun t182 => (if t182 = true then ((impl_InRange.f ((rd_T108 x10 x12).f2) 0 1000000).bind fun t183 => (if t183 = true then (if x12 > 0 then (if 0 ≤ (wrap64 (x12 - 1)) then (if (wrap64 (x12 - 1)) < (x179000.length : Int) then (if ((rd_T108 x179000 (wrap64 (x12 - 1))).f2) > ((rd_T108 x10 x12).f2) then (some false) else (impl_IsValidMailbox.l0 k x10 x11 (wrap64 (x12 + 1)) x179000)) else (none)) else (none)) else (impl_IsValidMailbox.l0 k x10 x11 (wrap64 (x12 + 1)) x179000)) else (some false))) else (some false))) else (some false))) else (none)) else (none)) else (some true)
def impl_IsValidMailbox.f (k : Nat) (l0_0 : List (S108)) : Option (Bool) := if (l0_0.length : Int) > 30 then (some false) else (impl_IsValidMailbox.l0 k l0_0 (l0_0.length : Int) 0 l0_0)
theorem impl_IsValidMailbox.mono_l : ∀ k, (∀ y0 y1 y2 y3, LeO (impl_IsValidMailbox.l0 k y0 y1 y2 y3) (impl_IsValidMailbox.l0 (k + 1) y0 y1 y2 y3))
 | 0 => fun _ _ _ _ r h => by simp [impl_IsValidMailbox.l0] at h
 | k + 1 => by
  have ih0 := impl_IsValidMailbox.mono_l k
  ·intro y0 y1 y2 y3
   unfold impl_IsValidMailbox.l0
   repeat' first
   | (with_reducible exact ih0 _ _ _ _)
   | (with_reducible exact LeO.refl _)
   | (with_reducible exact LeO.none _)
   | (with_reducible refine LeO.ite ?_ ?_)
   | (with_reducible refine LeO.bind ?_ (fun _ => ?_))
   | exact ih0 _ _ _ _
   | exact LeO.none _
   | refine LeO.ite ?_ ?_
   | refine LeO.bind ?_ (fun _ => ?_)
theorem impl_IsValidMailbox.mono : ∀ a0 k, LeO (impl_IsValidMailbox.f k a0) (impl_IsValidMailbox.f (k + 1) a0) := by
 intro a0 k
 have ih0 := impl_IsValidMailbox.mono_l k
 unfold impl_IsValidMailbox.f
 repeat' first
   | (with_reducible exact ih0 _ _ _ _)
   | (with_reducible exact LeO.refl _)
   | (with_reducible exact LeO.none _)
   | (with_reducible refine LeO.ite ?_ ?_)
   | (with_reducible refine LeO.bind ?_ (fun _ => ?_))
   | exact ih0 _ _ _ _
   | exact LeO.none _
   | refine LeO.ite ?_ ?_
   | refine LeO.bind ?_ (fun _ => ?_)
set_option maxHeartbeats 8000000 in
set_option maxRecDepth 100000 in
theorem impl_IsValidMailbox.calls (k : Nat) (A0_0 : Option Addr) (c0_0 : Nat) (l0_0 : List (S108)) (r : Bool) (w : World) (hr0_0 : Kd.C k108 w A0_0 l0_0.length l0_0) (hc0_0 : l0_0.length ≤ c0_0) (h : impl_IsValidMailbox.f k l0_0 = some r) :
  Calls Try.prog 71 #[.agg #[.slice A0_0 l0_0.length c0_0]] w fun e w' => e = .returned (.bool r) ∧ Below w.heap.size w w' := by
 have hu65 := Try.underlying65
 have hu108 := Try.underlying108
 have HR0_0 := Aside0.mk hr0_0
 have HC0_0 := Aside0.mk hc0_0
 clear hr0_0 hc0_0
 have HB := Aside0.mk (Below.refl w.heap.size w)
 have H : (if (l0_0.length : Int) > 30 then (some false) else (impl_IsValidMailbox.l0 k l0_0 (l0_0.length : Int) 0 l0_0)) = some r := h
 clear h
 by_cases c2 : (l0_0.length : Int) > 30
 ·rw [if_pos c2] at H
  have c2b0 : decide (30 < (l0_0.length : Int)) = true := decide_eq_true c2
  have c2b1 : decide (30 < l0_0.length) = true := decide_eq_true (by omega)
  clear c2
  obtain rfl := Option.some.inj H
  go_enter Try.func71, Try.ntmps71
  go_wp2_with (first | ((with_reducible refine gate_dst (N := 1) rfl ?_); refine box_event ?hg (N := 1) ?hd (cs := #[.slice A0_0 l0_0.length c0_0]) (t := 65) ?hr ?_; (case hd => rfl); (case hg => rfl); (case hr => exact tG); intro gb178 hg w3 hbox hb; have BK178 := Aside0.mk (hbox); have GW178 := gW HB hg; have GE178 := gW HB hg; replace HB := bH HB hb; clear hb hbox hg; obtain ⟨hcz4_0, hfz4_0⟩ := bc1 BK178.out))
  repeat (go_quiet (first | ((with_reducible refine gate_dst (N := 1) rfl ?_); refine box_event ?hg (N := 1) ?hd (cs := #[.slice A0_0 l0_0.length c0_0]) (t := 65) ?hr ?_; (case hd => rfl); (case hg => rfl); (case hr => exact tG); intro gb178 hg w3 hbox hb; have BK178 := Aside0.mk (hbox); have GW178 := gW HB hg; have GE178 := gW HB hg; replace HB := bH HB hb; clear hb hbox hg; obtain ⟨hcz4_0, hfz4_0⟩ := bc1 BK178.out)); try go_wp2_with (first | ((with_reducible refine gate_dst (N := 1) rfl ?_); refine box_event ?hg (N := 1) ?hd (cs := #[.slice A0_0 l0_0.length c0_0]) (t := 65) ?hr ?_; (case hd => rfl); (case hg => rfl); (case hr => exact tG); intro gb178 hg w3 hbox hb; have BK178 := Aside0.mk (hbox); have GW178 := gW HB hg; have GE178 := gW HB hg; replace HB := bH HB hb; clear hb hbox hg; obtain ⟨hcz4_0, hfz4_0⟩ := bc1 BK178.out)))
  go_ret
  exact ⟨tE, tB⟩
 rw [if_neg c2] at H
 have c2b0 : decide (30 < (l0_0.length : Int)) = false := decide_eq_false c2
 have c2b1 : decide (30 < l0_0.length) = false := decide_eq_false (by omega)
 clear c2
 have H' := Aside0.mk H
 clear H
 go_enter Try.func71, Try.ntmps71
 go_wp2_with (first | ((with_reducible refine gate_dst (N := 1) rfl ?_); refine box_event ?hg (N := 1) ?hd (cs := #[.slice A0_0 l0_0.length c0_0]) (t := 65) ?hr ?_; (case hd => rfl); (case hg => rfl); (case hr => exact tG); intro gb178 hg w5 hbox hb; have BK178 := Aside0.mk (hbox); have GW178 := gW HB hg; have GE178 := gW HB hg; replace HB := bH HB hb; clear hb hbox hg; obtain ⟨hcz6_0, hfz6_0⟩ := bc1 BK178.out))
 repeat (go_quiet (first | ((with_reducible refine gate_dst (N := 1) rfl ?_); refine box_event ?hg (N := 1) ?hd (cs := #[.slice A0_0 l0_0.length c0_0]) (t := 65) ?hr ?_; (case hd => rfl); (case hg => rfl); (case hr => exact tG); intro gb178 hg w5 hbox hb; have BK178 := Aside0.mk (hbox); have GW178 := gW HB hg; have GE178 := gW HB hg; replace HB := bH HB hb; clear hb hbox hg; obtain ⟨hcz6_0, hfz6_0⟩ := bc1 BK178.out)); try go_wp2_with (first | ((with_reducible refine gate_dst (N := 1) rfl ?_); refine box_event ?hg (N := 1) ?hd (cs := #[.slice A0_0 l0_0.length c0_0]) (t := 65) ?hr ?_; (case hd => rfl); (case hg => rfl); (case hr => exact tG); intro gb178 hg w5 hbox hb; have BK178 := Aside0.mk (hbox); have GW178 := gW HB hg; have GE178 := gW HB hg; replace HB := bH HB hb; clear hb hbox hg; obtain ⟨hcz6_0, hfz6_0⟩ := bc1 BK178.out)))
 go_loopg [12] k (fun kq v12 w' => ∃ (x12_1 : Int), v12 = .int .i64 x12_1 ∧ Aside0 (impl_IsValidMailbox.l0 kq l0_0 (l0_0.length : Int) x12_1 l0_0 = some r) ∧ Aside0 (kq ≤ k) ∧ Aside0 (w'.heap[gb178]? = some (.cells #[(.slice A0_0 l0_0.length c0_0)] 65 (0, 0))) ∧ Aside0 (Below w.heap.size w w'))
 case atStart => exact ⟨(0), tS, H', ⟨Nat.le_refl _⟩, ⟨tK BK178⟩, ⟨tB⟩⟩
 case round =>
  clear H'
  try clear c2
  try clear c2b0
  try clear c2b1
  try clear p2
  try clear hcz4_0
  try clear hcz6_0
  try clear hfz4_0
  try clear hfz6_0
  obtain ⟨x12_1, rfl, HA, HK1, BK178, HB⟩ := hrel
  cases gk with
  | zero => exact absurd HA.out (by simp [impl_IsValidMailbox.l0])
  | succ k1 =>
   have H := HA.out
   clear HA
   simp only [impl_IsValidMailbox.l0] at H
   by_cases c7 : x12_1 < (l0_0.length : Int)
   ·rw [if_pos c7] at H
    have c7b0 : decide (x12_1 < (l0_0.length : Int)) = true := decide_eq_true c7
    clear c7
    by_cases c8 : 0 ≤ x12_1
    ·rw [if_pos c8] at H
     have c8b0 : decide (0 ≤ x12_1) = true := decide_eq_true c8
     clear c8
     by_cases c9 : x12_1 < (l0_0.length : Int)
     ·rw [if_pos c9] at H
      have c9b0 : decide (x12_1 < (l0_0.length : Int)) = true := decide_eq_true c9
      clear c9
      replace H := Option.bind_eq_some_iff.mp H
      obtain ⟨t181, A100, H⟩ := H
      try dsimp only at H
      have A10 := Aside0.mk A100
      clear A100
      by_cases c11 : t181 = true
      ·subst c11
       have H1 : ((impl_InRange.f ((rd_T108 l0_0 x12_1).f1) 0 1000000).bind fun t182 => (if t182 = true then ((impl_InRange.f ((rd_T108 l0_0 x12_1).f2) 0 1000000).bind fun t183 => (if t183 = true then (if x12_1 > 0 then (if 0 ≤ (wrap64 (x12_1 - 1)) then (if (wrap64 (x12_1 - 1)) < (l0_0.length : Int) then (if ((rd_T108 l0_0 (wrap64 (x12_1 - 1))).f2) > ((rd_T108 l0_0 x12_1).f2) then (some false) else (impl_IsValidMailbox.l0 k1 l0_0 (l0_0.length : Int) (wrap64 (x12_1 + 1)) l0_0)) else (none)) else (none)) else (impl_IsValidMailbox.l0 k1 l0_0 (l0_0.length : Int) (wrap64 (x12_1 + 1)) l0_0)) else (some false))) else (some false))) = some r := by rw [if_pos rfl] at H; exact H
       clear H
       have H := H1
       clear H1
       replace H := Option.bind_eq_some_iff.mp H
       obtain ⟨t182, A120, H⟩ := H
       try dsimp only at H
       have A12 := Aside0.mk A120
       clear A120
       by_cases c13 : t182 = true
       ·subst c13
        have H1 : ((impl_InRange.f ((rd_T108 l0_0 x12_1).f2) 0 1000000).bind fun t183 => (if t183 = true then (if x12_1 > 0 then (if 0 ≤ (wrap64 (x12_1 - 1)) then (if (wrap64 (x12_1 - 1)) < (l0_0.length : Int) then (if ((rd_T108 l0_0 (wrap64 (x12_1 - 1))).f2) > ((rd_T108 l0_0 x12_1).f2) then (some false) else (impl_IsValidMailbox.l0 k1 l0_0 (l0_0.length : Int) (wrap64 (x12_1 + 1)) l0_0)) else (none)) else (none)) else (impl_IsValidMailbox.l0 k1 l0_0 (l0_0.length : Int) (wrap64 (x12_1 + 1)) l0_0)) else (some false))) = some r := by rw [if_pos rfl] at H; exact H
        clear H
        have H := H1
        clear H1
        replace H := Option.bind_eq_some_iff.mp H
        obtain ⟨t183, A140, H⟩ := H
        try dsimp only at H
        have A14 := Aside0.mk A140
        clear A140
        by_cases c15 : t183 = true
        ·subst c15
         have H1 : (if x12_1 > 0 then (if 0 ≤ (wrap64 (x12_1 - 1)) then (if (wrap64 (x12_1 - 1)) < (l0_0.length : Int) then (if ((rd_T108 l0_0 (wrap64 (x12_1 - 1))).f2) > ((rd_T108 l0_0 x12_1).f2) then (some false) else (impl_IsValidMailbox.l0 k1 l0_0 (l0_0.length : Int) (wrap64 (x12_1 + 1)) l0_0)) else (none)) else (none)) else (impl_IsValidMailbox.l0 k1 l0_0 (l0_0.length : Int) (wrap64 (x12_1 + 1)) l0_0)) = some r := by rw [if_pos rfl] at H; exact H
         clear H
         have H := H1
         clear H1
         by_cases c16 : x12_1 > 0
         ·rw [if_pos c16] at H
          have c16b0 : decide (0 < x12_1) = true := decide_eq_true c16
          clear c16
          obtain ⟨ji17, hji17⟩ : ∃ j_ : Int, (wrap64 (x12_1 - 1)) = j_ := ⟨_, rfl⟩
          replace H : (if 0 ≤ (ji17) then (if (ji17) < (l0_0.length : Int) then (if ((rd_T108 l0_0 (ji17)).f2) > ((rd_T108 l0_0 x12_1).f2) then (some false) else (impl_IsValidMailbox.l0 k1 l0_0 (l0_0.length : Int) (wrap64 (x12_1 + 1)) l0_0)) else (none)) else (none)) = some r := by first | (rw [hji17] at H; exact H) | (simp only [hji17] at H ⊢; exact H)
          (try rw [hji17] at A10)
          (try rw [hji17] at A12)
          (try rw [hji17] at A14)
          have hji17w : (IntKind.i64.wrap (x12_1 - 1)) = ji17 := (i64_w _).trans hji17
          by_cases c18 : 0 ≤ (ji17)
          ·rw [if_pos c18] at H
           have c18b0 : decide (0 ≤ (ji17)) = true := decide_eq_true c18
           clear c18
           by_cases c19 : (ji17) < (l0_0.length : Int)
           ·rw [if_pos c19] at H
            have c19b0 : decide ((ji17) < (l0_0.length : Int)) = true := decide_eq_true c19
            clear c19
            by_cases c20 : ((rd_T108 l0_0 (ji17)).f2) > ((rd_T108 l0_0 x12_1).f2)
            ·rw [if_pos c20] at H
             have c20b0 : decide (((rd_T108 l0_0 x12_1).f2) < ((rd_T108 l0_0 (ji17)).f2)) = true := decide_eq_true c20
             clear c20
             obtain rfl := Option.some.inj H
             have p179 : 0 ≤ (x12_1 : Int) := of_decide_eq_true tA
             have q179 : x12_1 < (l0_0.length : Int) := of_decide_eq_true tA
             obtain ⟨ad179, e179, hx179_0, hx179_1, hx179_2, hx179_3⟩ := at_T108 HR0_0.out x12_1 p179 q179
             cases e179
             replace hx179_0 := hbc HB hx179_0
             replace hx179_1 := hbc HB hx179_1
             replace hx179_2 := hbc HB hx179_2
             replace hx179_3 := hbc HB hx179_3
             replace p179 := eq_true p179
             replace q179 := eq_true q179
             go_wp2_with (first | ((with_reducible refine gate_dst (N := 4) rfl ?_); refine box_event ?hg (N := 4) ?hd (cs := #[.int .i64 0, .int .i64 0, .int .i64 0, .bool false]) (t := 108) ?hr ?_; (case hd => rfl); (case hg => rfl); (case hr => exact tG); intro gb180 hg w21 hbox hb; have BK180 := Aside0.mk (hbox); have GW180 := gW HB hg; have GE180 := gW HB hg; replace HB := bH HB hb; have NB178_180 := nL BK178 hg; have NB180_178 := nR BK178 hg; replace BK178 := bB BK178 hb; clear hb hbox hg; have hnb22 := NB180_178.out; have hnc22 := NB178_180.out; obtain ⟨hcz23_0, hcz23_1, hcz23_2, hcz23_3, hfz23_0, hfz23_1, hfz23_2, hfz23_3⟩ := bc4 BK180.out) | (go_at_call 81; (with_reducible refine (impl_InRange.calls ((rd_T108 l0_0 x12_1).f0) 1 5 true _ A10.out).mono ?_); rintro e w' ⟨rfl, ⟨nd, rfl⟩⟩; (try exact tQ)) | (go_at_call 81; (with_reducible refine (impl_InRange.calls ((rd_T108 l0_0 x12_1).f1) 0 1000000 true _ A12.out).mono ?_); rintro e w' ⟨rfl, ⟨nd, rfl⟩⟩; (try exact tQ)) | (go_at_call 81; (with_reducible refine (impl_InRange.calls ((rd_T108 l0_0 x12_1).f2) 0 1000000 true _ A14.out).mono ?_); rintro e w' ⟨rfl, ⟨nd, rfl⟩⟩; (try exact tQ)))
             obtain ⟨hcz24_0, hfz24_0⟩ := bc1 BK178.out
             have p184 : 0 ≤ ((ji17) : Int) := of_decide_eq_true tA
             have q184 : (ji17) < (l0_0.length : Int) := of_decide_eq_true tA
             obtain ⟨ad184, e184, hx184_0, hx184_1, hx184_2, hx184_3⟩ := at_T108 HR0_0.out (ji17) p184 q184
             obtain rfl : ad179 = ad184 := (by injection e184)
             have hn184_0 : ad179.block ≠ gb180 := Nat.ne_of_lt (Nat.lt_of_lt_of_le (by have := World.block_lt_of_cell? _ _ hx184_0; first | rwa [add_block] at this | exact this) GW180.out)
             have hn184_1 : ad179.block ≠ gb180 := Nat.ne_of_lt (Nat.lt_of_lt_of_le (by have := World.block_lt_of_cell? _ _ hx184_0; first | rwa [add_block] at this | exact this) GW180.out)
             have hn184_2 : ad179.block ≠ gb180 := Nat.ne_of_lt (Nat.lt_of_lt_of_le (by have := World.block_lt_of_cell? _ _ hx184_0; first | rwa [add_block] at this | exact this) GW180.out)
             have hn184_3 : ad179.block ≠ gb180 := Nat.ne_of_lt (Nat.lt_of_lt_of_le (by have := World.block_lt_of_cell? _ _ hx184_0; first | rwa [add_block] at this | exact this) GW180.out)
             replace hx184_0 := hbc HB hx184_0
             replace hx184_1 := hbc HB hx184_1
             replace hx184_2 := hbc HB hx184_2
             replace hx184_3 := hbc HB hx184_3
             have F_ := @far4 gb180 (.int .i64 ((rd_T108 l0_0 x12_1).f0)) (.int .i64 ((rd_T108 l0_0 x12_1).f1)) (.int .i64 ((rd_T108 l0_0 x12_1).f2)) (.bool ((rd_T108 l0_0 x12_1).f3))
             replace hx184_0 := (F_ tF).trans hx184_0
             replace hx184_1 := (F_ tF).trans hx184_1
             replace hx184_2 := (F_ tF).trans hx184_2
             replace hx184_3 := (F_ tF).trans hx184_3
             clear F_
             clear hn184_0
             clear hn184_1
             clear hn184_2
             clear hn184_3
             replace p184 := eq_true p184
             replace q184 := eq_true q184
             repeat (go_quiet (first | ((with_reducible refine gate_dst (N := 4) rfl ?_); refine box_event ?hg (N := 4) ?hd (cs := #[.int .i64 0, .int .i64 0, .int .i64 0, .bool false]) (t := 108) ?hr ?_; (case hd => rfl); (case hg => rfl); (case hr => exact tG); intro gb180 hg w21 hbox hb; have BK180 := Aside0.mk (hbox); have GW180 := gW HB hg; have GE180 := gW HB hg; replace HB := bH HB hb; have NB178_180 := nL BK178 hg; have NB180_178 := nR BK178 hg; replace BK178 := bB BK178 hb; clear hb hbox hg; have hnb22 := NB180_178.out; have hnc22 := NB178_180.out; obtain ⟨hcz23_0, hcz23_1, hcz23_2, hcz23_3, hfz23_0, hfz23_1, hfz23_2, hfz23_3⟩ := bc4 BK180.out) | (go_at_call 81; (with_reducible refine (impl_InRange.calls ((rd_T108 l0_0 x12_1).f0) 1 5 true _ A10.out).mono ?_); rintro e w' ⟨rfl, ⟨nd, rfl⟩⟩; (try exact tQ)) | (go_at_call 81; (with_reducible refine (impl_InRange.calls ((rd_T108 l0_0 x12_1).f1) 0 1000000 true _ A12.out).mono ?_); rintro e w' ⟨rfl, ⟨nd, rfl⟩⟩; (try exact tQ)) | (go_at_call 81; (with_reducible refine (impl_InRange.calls ((rd_T108 l0_0 x12_1).f2) 0 1000000 true _ A14.out).mono ?_); rintro e w' ⟨rfl, ⟨nd, rfl⟩⟩; (try exact tQ))); try go_wp2_with (first | ((with_reducible refine gate_dst (N := 4) rfl ?_); refine box_event ?hg (N := 4) ?hd (cs := #[.int .i64 0, .int .i64 0, .int .i64 0, .bool false]) (t := 108) ?hr ?_; (case hd => rfl); (case hg => rfl); (case hr => exact tG); intro gb180 hg w21 hbox hb; have BK180 := Aside0.mk (hbox); have GW180 := gW HB hg; have GE180 := gW HB hg; replace HB := bH HB hb; have NB178_180 := nL BK178 hg; have NB180_178 := nR BK178 hg; replace BK178 := bB BK178 hb; clear hb hbox hg; have hnb22 := NB180_178.out; have hnc22 := NB178_180.out; obtain ⟨hcz23_0, hcz23_1, hcz23_2, hcz23_3, hfz23_0, hfz23_1, hfz23_2, hfz23_3⟩ := bc4 BK180.out) | (go_at_call 81; (with_reducible refine (impl_InRange.calls ((rd_T108 l0_0 x12_1).f0) 1 5 true _ A10.out).mono ?_); rintro e w' ⟨rfl, ⟨nd, rfl⟩⟩; (try exact tQ)) | (go_at_call 81; (with_reducible refine (impl_InRange.calls ((rd_T108 l0_0 x12_1).f1) 0 1000000 true _ A12.out).mono ?_); rintro e w' ⟨rfl, ⟨nd, rfl⟩⟩; (try exact tQ)) | (go_at_call 81; (with_reducible refine (impl_InRange.calls ((rd_T108 l0_0 x12_1).f2) 0 1000000 true _ A14.out).mono ?_); rintro e w' ⟨rfl, ⟨nd, rfl⟩⟩; (try exact tQ))))
             go_ret
             exact ⟨by first | rfl | (simp [errW_none, errW_some] <;> rfl) | (simp only [← hji17]; first | rfl | (simp [errW_none, errW_some] <;> rfl)) | (simp [*, errW_none, errW_some] <;> rfl), tB⟩
            rw [if_neg c20] at H
            have c20b0 : decide (((rd_T108 l0_0 x12_1).f2) < ((rd_T108 l0_0 (ji17)).f2)) = false := decide_eq_false c20
            clear c20
            have H' := Aside0.mk H
            clear H
            have p179 : 0 ≤ (x12_1 : Int) := of_decide_eq_true tA
            have q179 : x12_1 < (l0_0.length : Int) := of_decide_eq_true tA
            obtain ⟨ad179, e179, hx179_0, hx179_1, hx179_2, hx179_3⟩ := at_T108 HR0_0.out x12_1 p179 q179
            cases e179
            replace hx179_0 := hbc HB hx179_0
            replace hx179_1 := hbc HB hx179_1
            replace hx179_2 := hbc HB hx179_2
            replace hx179_3 := hbc HB hx179_3
            replace p179 := eq_true p179
            replace q179 := eq_true q179
            go_wp2_with (first | ((with_reducible refine gate_dst (N := 4) rfl ?_); refine box_event ?hg (N := 4) ?hd (cs := #[.int .i64 0, .int .i64 0, .int .i64 0, .bool false]) (t := 108) ?hr ?_; (case hd => rfl); (case hg => rfl); (case hr => exact tG); intro gb180 hg w25 hbox hb; have BK180 := Aside0.mk (hbox); have GW180 := gW HB hg; have GE180 := gW HB hg; replace HB := bH HB hb; have NB178_180 := nL BK178 hg; have NB180_178 := nR BK178 hg; replace BK178 := bB BK178 hb; clear hb hbox hg; have hnb26 := NB180_178.out; have hnc26 := NB178_180.out; obtain ⟨hcz27_0, hcz27_1, hcz27_2, hcz27_3, hfz27_0, hfz27_1, hfz27_2, hfz27_3⟩ := bc4 BK180.out) | (go_at_call 81; (with_reducible refine (impl_InRange.calls ((rd_T108 l0_0 x12_1).f0) 1 5 true _ A10.out).mono ?_); rintro e w' ⟨rfl, ⟨nd, rfl⟩⟩; (try exact tQ)) | (go_at_call 81; (with_reducible refine (impl_InRange.calls ((rd_T108 l0_0 x12_1).f1) 0 1000000 true _ A12.out).mono ?_); rintro e w' ⟨rfl, ⟨nd, rfl⟩⟩; (try exact tQ)) | (go_at_call 81; (with_reducible refine (impl_InRange.calls ((rd_T108 l0_0 x12_1).f2) 0 1000000 true _ A14.out).mono ?_); rintro e w' ⟨rfl, ⟨nd, rfl⟩⟩; (try exact tQ)))
            obtain ⟨hcz28_0, hfz28_0⟩ := bc1 BK178.out
            have p184 : 0 ≤ ((ji17) : Int) := of_decide_eq_true tA
            have q184 : (ji17) < (l0_0.length : Int) := of_decide_eq_true tA
            obtain ⟨ad184, e184, hx184_0, hx184_1, hx184_2, hx184_3⟩ := at_T108 HR0_0.out (ji17) p184 q184
            obtain rfl : ad179 = ad184 := (by injection e184)
            have hn184_0 : ad179.block ≠ gb180 := Nat.ne_of_lt (Nat.lt_of_lt_of_le (by have := World.block_lt_of_cell? _ _ hx184_0; first | rwa [add_block] at this | exact this) GW180.out)
            have hn184_1 : ad179.block ≠ gb180 := Nat.ne_of_lt (Nat.lt_of_lt_of_le (by have := World.block_lt_of_cell? _ _ hx184_0; first | rwa [add_block] at this | exact this) GW180.out)
            have hn184_2 : ad179.block ≠ gb180 := Nat.ne_of_lt (Nat.lt_of_lt_of_le (by have := World.block_lt_of_cell? _ _ hx184_0; first | rwa [add_block] at this | exact this) GW180.out)
            have hn184_3 : ad179.block ≠ gb180 := Nat.ne_of_lt (Nat.lt_of_lt_of_le (by have := World.block_lt_of_cell? _ _ hx184_0; first | rwa [add_block] at this | exact this) GW180.out)
            replace hx184_0 := hbc HB hx184_0
            replace hx184_1 := hbc HB hx184_1
            replace hx184_2 := hbc HB hx184_2
            replace hx184_3 := hbc HB hx184_3
            have F_ := @far4 gb180 (.int .i64 ((rd_T108 l0_0 x12_1).f0)) (.int .i64 ((rd_T108 l0_0 x12_1).f1)) (.int .i64 ((rd_T108 l0_0 x12_1).f2)) (.bool ((rd_T108 l0_0 x12_1).f3))
            replace hx184_0 := (F_ tF).trans hx184_0
            replace hx184_1 := (F_ tF).trans hx184_1
            replace hx184_2 := (F_ tF).trans hx184_2
            replace hx184_3 := (F_ tF).trans hx184_3
            clear F_
            clear hn184_0
            clear hn184_1
            clear hn184_2
            clear hn184_3
            replace p184 := eq_true p184
            replace q184 := eq_true q184
            repeat (go_quiet (first | ((with_reducible refine gate_dst (N := 4) rfl ?_); refine box_event ?hg (N := 4) ?hd (cs := #[.int .i64 0, .int .i64 0, .int .i64 0, .bool false]) (t := 108) ?hr ?_; (case hd => rfl); (case hg => rfl); (case hr => exact tG); intro gb180 hg w25 hbox hb; have BK180 := Aside0.mk (hbox); have GW180 := gW HB hg; have GE180 := gW HB hg; replace HB := bH HB hb; have NB178_180 := nL BK178 hg; have NB180_178 := nR BK178 hg; replace BK178 := bB BK178 hb; clear hb hbox hg; have hnb26 := NB180_178.out; have hnc26 := NB178_180.out; obtain ⟨hcz27_0, hcz27_1, hcz27_2, hcz27_3, hfz27_0, hfz27_1, hfz27_2, hfz27_3⟩ := bc4 BK180.out) | (go_at_call 81; (with_reducible refine (impl_InRange.calls ((rd_T108 l0_0 x12_1).f0) 1 5 true _ A10.out).mono ?_); rintro e w' ⟨rfl, ⟨nd, rfl⟩⟩; (try exact tQ)) | (go_at_call 81; (with_reducible refine (impl_InRange.calls ((rd_T108 l0_0 x12_1).f1) 0 1000000 true _ A12.out).mono ?_); rintro e w' ⟨rfl, ⟨nd, rfl⟩⟩; (try exact tQ)) | (go_at_call 81; (with_reducible refine (impl_InRange.calls ((rd_T108 l0_0 x12_1).f2) 0 1000000 true _ A14.out).mono ?_); rintro e w' ⟨rfl, ⟨nd, rfl⟩⟩; (try exact tQ))); try go_wp2_with (first | ((with_reducible refine gate_dst (N := 4) rfl ?_); refine box_event ?hg (N := 4) ?hd (cs := #[.int .i64 0, .int .i64 0, .int .i64 0, .bool false]) (t := 108) ?hr ?_; (case hd => rfl); (case hg => rfl); (case hr => exact tG); intro gb180 hg w25 hbox hb; have BK180 := Aside0.mk (hbox); have GW180 := gW HB hg; have GE180 := gW HB hg; replace HB := bH HB hb; have NB178_180 := nL BK178 hg; have NB180_178 := nR BK178 hg; replace BK178 := bB BK178 hb; clear hb hbox hg; have hnb26 := NB180_178.out; have hnc26 := NB178_180.out; obtain ⟨hcz27_0, hcz27_1, hcz27_2, hcz27_3, hfz27_0, hfz27_1, hfz27_2, hfz27_3⟩ := bc4 BK180.out) | (go_at_call 81; (with_reducible refine (impl_InRange.calls ((rd_T108 l0_0 x12_1).f0) 1 5 true _ A10.out).mono ?_); rintro e w' ⟨rfl, ⟨nd, rfl⟩⟩; (try exact tQ)) | (go_at_call 81; (with_reducible refine (impl_InRange.calls ((rd_T108 l0_0 x12_1).f1) 0 1000000 true _ A12.out).mono ?_); rintro e w' ⟨rfl, ⟨nd, rfl⟩⟩; (try exact tQ)) | (go_at_call 81; (with_reducible refine (impl_InRange.calls ((rd_T108 l0_0 x12_1).f2) 0 1000000 true _ A14.out).mono ?_); rintro e w' ⟨rfl, ⟨nd, rfl⟩⟩; (try exact tQ))))
            go_roundg k1
            case measure => have := HK1.out; omega
            case rel => exact ⟨(wrap64 (x12_1 + 1)), tS, H', ⟨tI⟩, ⟨kF NB178_180 BK178⟩, ⟨tB⟩⟩
           rw [if_neg c19] at H
           exact absurd H (by simp)
          rw [if_neg c18] at H
          exact absurd H (by simp)
         rw [if_neg c16] at H
         have c16b0 : decide (0 < x12_1) = false := decide_eq_false c16
         clear c16
         have H' := Aside0.mk H
         clear H
         have p179 : 0 ≤ (x12_1 : Int) := of_decide_eq_true tA
         have q179 : x12_1 < (l0_0.length : Int) := of_decide_eq_true tA
         obtain ⟨ad179, e179, hx179_0, hx179_1, hx179_2, hx179_3⟩ := at_T108 HR0_0.out x12_1 p179 q179
         cases e179
         replace hx179_0 := hbc HB hx179_0
         replace hx179_1 := hbc HB hx179_1
         replace hx179_2 := hbc HB hx179_2
         replace hx179_3 := hbc HB hx179_3
         replace p179 := eq_true p179
         replace q179 := eq_true q179
         go_wp2_with (first | ((with_reducible refine gate_dst (N := 4) rfl ?_); refine box_event ?hg (N := 4) ?hd (cs := #[.int .i64 0, .int .i64 0, .int .i64 0, .bool false]) (t := 108) ?hr ?_; (case hd => rfl); (case hg => rfl); (case hr => exact tG); intro gb180 hg w29 hbox hb; have BK180 := Aside0.mk (hbox); have GW180 := gW HB hg; have GE180 := gW HB hg; replace HB := bH HB hb; have NB178_180 := nL BK178 hg; have NB180_178 := nR BK178 hg; replace BK178 := bB BK178 hb; clear hb hbox hg; have hnb30 := NB180_178.out; have hnc30 := NB178_180.out; obtain ⟨hcz31_0, hcz31_1, hcz31_2, hcz31_3, hfz31_0, hfz31_1, hfz31_2, hfz31_3⟩ := bc4 BK180.out) | (go_at_call 81; (with_reducible refine (impl_InRange.calls ((rd_T108 l0_0 x12_1).f0) 1 5 true _ A10.out).mono ?_); rintro e w' ⟨rfl, ⟨nd, rfl⟩⟩; (try exact tQ)) | (go_at_call 81; (with_reducible refine (impl_InRange.calls ((rd_T108 l0_0 x12_1).f1) 0 1000000 true _ A12.out).mono ?_); rintro e w' ⟨rfl, ⟨nd, rfl⟩⟩; (try exact tQ)) | (go_at_call 81; (with_reducible refine (impl_InRange.calls ((rd_T108 l0_0 x12_1).f2) 0 1000000 true _ A14.out).mono ?_); rintro e w' ⟨rfl, ⟨nd, rfl⟩⟩; (try exact tQ)))
         repeat (go_quiet (first | ((with_reducible refine gate_dst (N := 4) rfl ?_); refine box_event ?hg (N := 4) ?hd (cs := #[.int .i64 0, .int .i64 0, .int .i64 0, .bool false]) (t := 108) ?hr ?_; (case hd => rfl); (case hg => rfl); (case hr => exact tG); intro gb180 hg w29 hbox hb; have BK180 := Aside0.mk (hbox); have GW180 := gW HB hg; have GE180 := gW HB hg; replace HB := bH HB hb; have NB178_180 := nL BK178 hg; have NB180_178 := nR BK178 hg; replace BK178 := bB BK178 hb; clear hb hbox hg; have hnb30 := NB180_178.out; have hnc30 := NB178_180.out; obtain ⟨hcz31_0, hcz31_1, hcz31_2, hcz31_3, hfz31_0, hfz31_1, hfz31_2, hfz31_3⟩ := bc4 BK180.out) | (go_at_call 81; (with_reducible refine (impl_InRange.calls ((rd_T108 l0_0 x12_1).f0) 1 5 true _ A10.out).mono ?_); rintro e w' ⟨rfl, ⟨nd, rfl⟩⟩; (try exact tQ)) | (go_at_call 81; (with_reducible refine (impl_InRange.calls ((rd_T108 l0_0 x12_1).f1) 0 1000000 true _ A12.out).mono ?_); rintro e w' ⟨rfl, ⟨nd, rfl⟩⟩; (try exact tQ)) | (go_at_call 81; (with_reducible refine (impl_InRange.calls ((rd_T108 l0_0 x12_1).f2) 0 1000000 true _ A14.out).mono ?_); rintro e w' ⟨rfl, ⟨nd, rfl⟩⟩; (try exact tQ))); try go_wp2_with (first | ((with_reducible refine gate_dst (N := 4) rfl ?_); refine box_event ?hg (N := 4) ?hd (cs := #[.int .i64 0, .int .i64 0, .int .i64 0, .bool false]) (t := 108) ?hr ?_; (case hd => rfl); (case hg => rfl); (case hr => exact tG); intro gb180 hg w29 hbox hb; have BK180 := Aside0.mk (hbox); have GW180 := gW HB hg; have GE180 := gW HB hg; replace HB := bH HB hb; have NB178_180 := nL BK178 hg; have NB180_178 := nR BK178 hg; replace BK178 := bB BK178 hb; clear hb hbox hg; have hnb30 := NB180_178.out; have hnc30 := NB178_180.out; obtain ⟨hcz31_0, hcz31_1, hcz31_2, hcz31_3, hfz31_0, hfz31_1, hfz31_2, hfz31_3⟩ := bc4 BK180.out) | (go_at_call 81; (with_reducible refine (impl_InRange.calls ((rd_T108 l0_0 x12_1).f0) 1 5 true _ A10.out).mono ?_); rintro e w' ⟨rfl, ⟨nd, rfl⟩⟩; (try exact tQ)) | (go_at_call 81; (with_reducible refine (impl_InRange.calls ((rd_T108 l0_0 x12_1).f1) 0 1000000 true _ A12.out).mono ?_); rintro e w' ⟨rfl, ⟨nd, rfl⟩⟩; (try exact tQ)) | (go_at_call 81; (with_reducible refine (impl_InRange.calls ((rd_T108 l0_0 x12_1).f2) 0 1000000 true _ A14.out).mono ?_); rintro e w' ⟨rfl, ⟨nd, rfl⟩⟩; (try exact tQ))))
         go_roundg k1
         case measure => have := HK1.out; omega
         case rel => exact ⟨(wrap64 (x12_1 + 1)), tS, H', ⟨tI⟩, ⟨kF NB178_180 BK178⟩, ⟨tB⟩⟩
        replace c15 := Bool.eq_false_iff.mpr c15
        subst c15
        have H1 : (some false) = some r := by rw [if_neg (show ¬ (false = true) by decide)] at H; exact H
        clear H
        have H := H1
        clear H1
        obtain rfl := Option.some.inj H
        have p179 : 0 ≤ (x12_1 : Int) := of_decide_eq_true tA
        have q179 : x12_1 < (l0_0.length : Int) := of_decide_eq_true tA
        obtain ⟨ad179, e179, hx179_0, hx179_1, hx179_2, hx179_3⟩ := at_T108 HR0_0.out x12_1 p179 q179
        cases e179
        replace hx179_0 := hbc HB hx179_0
        replace hx179_1 := hbc HB hx179_1
        replace hx179_2 := hbc HB hx179_2
        replace hx179_3 := hbc HB hx179_3
        replace p179 := eq_true p179
        replace q179 := eq_true q179
        go_wp2_with (first | ((with_reducible refine gate_dst (N := 4) rfl ?_); refine box_event ?hg (N := 4) ?hd (cs := #[.int .i64 0, .int .i64 0, .int .i64 0, .bool false]) (t := 108) ?hr ?_; (case hd => rfl); (case hg => rfl); (case hr => exact tG); intro gb180 hg w32 hbox hb; have BK180 := Aside0.mk (hbox); have GW180 := gW HB hg; have GE180 := gW HB hg; replace HB := bH HB hb; have NB178_180 := nL BK178 hg; have NB180_178 := nR BK178 hg; replace BK178 := bB BK178 hb; clear hb hbox hg; have hnb33 := NB180_178.out; have hnc33 := NB178_180.out; obtain ⟨hcz34_0, hcz34_1, hcz34_2, hcz34_3, hfz34_0, hfz34_1, hfz34_2, hfz34_3⟩ := bc4 BK180.out) | (go_at_call 81; (with_reducible refine (impl_InRange.calls ((rd_T108 l0_0 x12_1).f0) 1 5 true _ A10.out).mono ?_); rintro e w' ⟨rfl, ⟨nd, rfl⟩⟩; (try exact tQ)) | (go_at_call 81; (with_reducible refine (impl_InRange.calls ((rd_T108 l0_0 x12_1).f1) 0 1000000 true _ A12.out).mono ?_); rintro e w' ⟨rfl, ⟨nd, rfl⟩⟩; (try exact tQ)) | (go_at_call 81; (with_reducible refine (impl_InRange.calls ((rd_T108 l0_0 x12_1).f2) 0 1000000 false _ A14.out).mono ?_); rintro e w' ⟨rfl, ⟨nd, rfl⟩⟩; (try exact tQ)))
        repeat (go_quiet (first | ((with_reducible refine gate_dst (N := 4) rfl ?_); refine box_event ?hg (N := 4) ?hd (cs := #[.int .i64 0, .int .i64 0, .int .i64 0, .bool false]) (t := 108) ?hr ?_; (case hd => rfl); (case hg => rfl); (case hr => exact tG); intro gb180 hg w32 hbox hb; have BK180 := Aside0.mk (hbox); have GW180 := gW HB hg; have GE180 := gW HB hg; replace HB := bH HB hb; have NB178_180 := nL BK178 hg; have NB180_178 := nR BK178 hg; replace BK178 := bB BK178 hb; clear hb hbox hg; have hnb33 := NB180_178.out; have hnc33 := NB178_180.out; obtain ⟨hcz34_0, hcz34_1, hcz34_2, hcz34_3, hfz34_0, hfz34_1, hfz34_2, hfz34_3⟩ := bc4 BK180.out) | (go_at_call 81; (with_reducible refine (impl_InRange.calls ((rd_T108 l0_0 x12_1).f0) 1 5 true _ A10.out).mono ?_); rintro e w' ⟨rfl, ⟨nd, rfl⟩⟩; (try exact tQ)) | (go_at_call 81; (with_reducible refine (impl_InRange.calls ((rd_T108 l0_0 x12_1).f1) 0 1000000 true _ A12.out).mono ?_); rintro e w' ⟨rfl, ⟨nd, rfl⟩⟩; (try exact tQ)) | (go_at_call 81; (with_reducible refine (impl_InRange.calls ((rd_T108 l0_0 x12_1).f2) 0 1000000 false _ A14.out).mono ?_); rintro e w' ⟨rfl, ⟨nd, rfl⟩⟩; (try exact tQ))); try go_wp2_with (first | ((with_reducible refine gate_dst (N := 4) rfl ?_); refine box_event ?hg (N := 4) ?hd (cs := #[.int .i64 0, .int .i64 0, .int .i64 0, .bool false]) (t := 108) ?hr ?_; (case hd => rfl); (case hg => rfl); (case hr => exact tG); intro gb180 hg w32 hbox hb; have BK180 := Aside0.mk (hbox); have GW180 := gW HB hg; have GE180 := gW HB hg; replace HB := bH HB hb; have NB178_180 := nL BK178 hg; have NB180_178 := nR BK178 hg; replace BK178 := bB BK178 hb; clear hb hbox hg; have hnb33 := NB180_178.out; have hnc33 := NB178_180.out; obtain ⟨hcz34_0, hcz34_1, hcz34_2, hcz34_3, hfz34_0, hfz34_1, hfz34_2, hfz34_3⟩ := bc4 BK180.out) | (go_at_call 81; (with_reducible refine (impl_InRange.calls ((rd_T108 l0_0 x12_1).f0) 1 5 true _ A10.out).mono ?_); rintro e w' ⟨rfl, ⟨nd, rfl⟩⟩; (try exact tQ)) | (go_at_call 81; (with_reducible refine (impl_InRange.calls ((rd_T108 l0_0 x12_1).f1) 0 1000000 true _ A12.out).mono ?_); rintro e w' ⟨rfl, ⟨nd, rfl⟩⟩; (try exact tQ)) | (go_at_call 81; (with_reducible refine (impl_InRange.calls ((rd_T108 l0_0 x12_1).f2) 0 1000000 false _ A14.out).mono ?_); rintro e w' ⟨rfl, ⟨nd, rfl⟩⟩; (try exact tQ))))
        go_ret
        exact ⟨tE, tB⟩
       replace c13 := Bool.eq_false_iff.mpr c13
       subst c13
       have H1 : (some false) = some r := by rw [if_neg (show ¬ (false = true) by decide)] at H; exact H
       clear H
       have H := H1
       clear H1
       obtain rfl := Option.some.inj H
       have p179 : 0 ≤ (x12_1 : Int) := of_decide_eq_true tA
       have q179 : x12_1 < (l0_0.length : Int) := of_decide_eq_true tA
       obtain ⟨ad179, e179, hx179_0, hx179_1, hx179_2, hx179_3⟩ := at_T108 HR0_0.out x12_1 p179 q179
       cases e179
       replace hx179_0 := hbc HB hx179_0
       replace hx179_1 := hbc HB hx179_1
       replace hx179_2 := hbc HB hx179_2
       replace hx179_3 := hbc HB hx179_3
       replace p179 := eq_true p179
       replace q179 := eq_true q179
       go_wp2_with (first | ((with_reducible refine gate_dst (N := 4) rfl ?_); refine box_event ?hg (N := 4) ?hd (cs := #[.int .i64 0, .int .i64 0, .int .i64 0, .bool false]) (t := 108) ?hr ?_; (case hd => rfl); (case hg => rfl); (case hr => exact tG); intro gb180 hg w35 hbox hb; have BK180 := Aside0.mk (hbox); have GW180 := gW HB hg; have GE180 := gW HB hg; replace HB := bH HB hb; have NB178_180 := nL BK178 hg; have NB180_178 := nR BK178 hg; replace BK178 := bB BK178 hb; clear hb hbox hg; have hnb36 := NB180_178.out; have hnc36 := NB178_180.out; obtain ⟨hcz37_0, hcz37_1, hcz37_2, hcz37_3, hfz37_0, hfz37_1, hfz37_2, hfz37_3⟩ := bc4 BK180.out) | (go_at_call 81; (with_reducible refine (impl_InRange.calls ((rd_T108 l0_0 x12_1).f0) 1 5 true _ A10.out).mono ?_); rintro e w' ⟨rfl, ⟨nd, rfl⟩⟩; (try exact tQ)) | (go_at_call 81; (with_reducible refine (impl_InRange.calls ((rd_T108 l0_0 x12_1).f1) 0 1000000 false _ A12.out).mono ?_); rintro e w' ⟨rfl, ⟨nd, rfl⟩⟩; (try exact tQ)))
       repeat (go_quiet (first | ((with_reducible refine gate_dst (N := 4) rfl ?_); refine box_event ?hg (N := 4) ?hd (cs := #[.int .i64 0, .int .i64 0, .int .i64 0, .bool false]) (t := 108) ?hr ?_; (case hd => rfl); (case hg => rfl); (case hr => exact tG); intro gb180 hg w35 hbox hb; have BK180 := Aside0.mk (hbox); have GW180 := gW HB hg; have GE180 := gW HB hg; replace HB := bH HB hb; have NB178_180 := nL BK178 hg; have NB180_178 := nR BK178 hg; replace BK178 := bB BK178 hb; clear hb hbox hg; have hnb36 := NB180_178.out; have hnc36 := NB178_180.out; obtain ⟨hcz37_0, hcz37_1, hcz37_2, hcz37_3, hfz37_0, hfz37_1, hfz37_2, hfz37_3⟩ := bc4 BK180.out) | (go_at_call 81; (with_reducible refine (impl_InRange.calls ((rd_T108 l0_0 x12_1).f0) 1 5 true _ A10.out).mono ?_); rintro e w' ⟨rfl, ⟨nd, rfl⟩⟩; (try exact tQ)) | (go_at_call 81; (with_reducible refine (impl_InRange.calls ((rd_T108 l0_0 x12_1).f1) 0 1000000 false _ A12.out).mono ?_); rintro e w' ⟨rfl, ⟨nd, rfl⟩⟩; (try exact tQ))); try go_wp2_with (first | ((with_reducible refine gate_dst (N := 4) rfl ?_); refine box_event ?hg (N := 4) ?hd (cs := #[.int .i64 0, .int .i64 0, .int .i64 0, .bool false]) (t := 108) ?hr ?_; (case hd => rfl); (case hg => rfl); (case hr => exact tG); intro gb180 hg w35 hbox hb; have BK180 := Aside0.mk (hbox); have GW180 := gW HB hg; have GE180 := gW HB hg; replace HB := bH HB hb; have NB178_180 := nL BK178 hg; have NB180_178 := nR BK178 hg; replace BK178 := bB BK178 hb; clear hb hbox hg; have hnb36 := NB180_178.out; have hnc36 := NB178_180.out; obtain ⟨hcz37_0, hcz37_1, hcz37_2, hcz37_3, hfz37_0, hfz37_1, hfz37_2, hfz37_3⟩ := bc4 BK180.out) | (go_at_call 81; (with_reducible refine (impl_InRange.calls ((rd_T108 l0_0 x12_1).f0) 1 5 true _ A10.out).mono ?_); rintro e w' ⟨rfl, ⟨nd, rfl⟩⟩; (try exact tQ)) | (go_at_call 81; (with_reducible refine (impl_InRange.calls ((rd_T108 l0_0 x12_1).f1) 0 1000000 false _ A12.out).mono ?_); rintro e w' ⟨rfl, ⟨nd, rfl⟩⟩; (try exact tQ))))
       go_ret
       exact ⟨tE, tB⟩
      replace c11 := Bool.eq_false_iff.mpr c11
      subst c11
      have H1 : (some false) = some r := by rw [if_neg (show ¬ (false = true) by decide)] at H; exact H
      clear H
      have H := H1
      clear H1
      obtain rfl := Option.some.inj H
      have p179 : 0 ≤ (x12_1 : Int) := of_decide_eq_true tA
      have q179 : x12_1 < (l0_0.length : Int) := of_decide_eq_true tA
      obtain ⟨ad179, e179, hx179_0, hx179_1, hx179_2, hx179_3⟩ := at_T108 HR0_0.out x12_1 p179 q179
      cases e179
      replace hx179_0 := hbc HB hx179_0
      replace hx179_1 := hbc HB hx179_1
      replace hx179_2 := hbc HB hx179_2
      replace hx179_3 := hbc HB hx179_3
      replace p179 := eq_true p179
      replace q179 := eq_true q179
      go_wp2_with (first | ((with_reducible refine gate_dst (N := 4) rfl ?_); refine box_event ?hg (N := 4) ?hd (cs := #[.int .i64 0, .int .i64 0, .int .i64 0, .bool false]) (t := 108) ?hr ?_; (case hd => rfl); (case hg => rfl); (case hr => exact tG); intro gb180 hg w38 hbox hb; have BK180 := Aside0.mk (hbox); have GW180 := gW HB hg; have GE180 := gW HB hg; replace HB := bH HB hb; have NB178_180 := nL BK178 hg; have NB180_178 := nR BK178 hg; replace BK178 := bB BK178 hb; clear hb hbox hg; have hnb39 := NB180_178.out; have hnc39 := NB178_180.out; obtain ⟨hcz40_0, hcz40_1, hcz40_2, hcz40_3, hfz40_0, hfz40_1, hfz40_2, hfz40_3⟩ := bc4 BK180.out) | (go_at_call 81; (with_reducible refine (impl_InRange.calls ((rd_T108 l0_0 x12_1).f0) 1 5 false _ A10.out).mono ?_); rintro e w' ⟨rfl, ⟨nd, rfl⟩⟩; (try exact tQ)))
      repeat (go_quiet (first | ((with_reducible refine gate_dst (N := 4) rfl ?_); refine box_event ?hg (N := 4) ?hd (cs := #[.int .i64 0, .int .i64 0, .int .i64 0, .bool false]) (t := 108) ?hr ?_; (case hd => rfl); (case hg => rfl); (case hr => exact tG); intro gb180 hg w38 hbox hb; have BK180 := Aside0.mk (hbox); have GW180 := gW HB hg; have GE180 := gW HB hg; replace HB := bH HB hb; have NB178_180 := nL BK178 hg; have NB180_178 := nR BK178 hg; replace BK178 := bB BK178 hb; clear hb hbox hg; have hnb39 := NB180_178.out; have hnc39 := NB178_180.out; obtain ⟨hcz40_0, hcz40_1, hcz40_2, hcz40_3, hfz40_0, hfz40_1, hfz40_2, hfz40_3⟩ := bc4 BK180.out) | (go_at_call 81; (with_reducible refine (impl_InRange.calls ((rd_T108 l0_0 x12_1).f0) 1 5 false _ A10.out).mono ?_); rintro e w' ⟨rfl, ⟨nd, rfl⟩⟩; (try exact tQ))); try go_wp2_with (first | ((with_reducible refine gate_dst (N := 4) rfl ?_); refine box_event ?hg (N := 4) ?hd (cs := #[.int .i64 0, .int .i64 0, .int .i64 0, .bool false]) (t := 108) ?hr ?_; (case hd => rfl); (case hg => rfl); (case hr => exact tG); intro gb180 hg w38 hbox hb; have BK180 := Aside0.mk (hbox); have GW180 := gW HB hg; have GE180 := gW HB hg; replace HB := bH HB hb; have NB178_180 := nL BK178 hg; have NB180_178 := nR BK178 hg; replace BK178 := bB BK178 hb; clear hb hbox hg; have hnb39 := NB180_178.out; have hnc39 := NB178_180.out; obtain ⟨hcz40_0, hcz40_1, hcz40_2, hcz40_3, hfz40_0, hfz40_1, hfz40_2, hfz40_3⟩ := bc4 BK180.out) | (go_at_call 81; (with_reducible refine (impl_InRange.calls ((rd_T108 l0_0 x12_1).f0) 1 5 false _ A10.out).mono ?_); rintro e w' ⟨rfl, ⟨nd, rfl⟩⟩; (try exact tQ))))
      go_ret
      exact ⟨tE, tB⟩
     rw [if_neg c9] at H
     exact absurd H (by simp)
    rw [if_neg c8] at H
    exact absurd H (by simp)
   rw [if_neg c7] at H
   have c7b0 : decide (x12_1 < (l0_0.length : Int)) = false := decide_eq_false c7
   clear c7
   obtain rfl := Option.some.inj H
   go_wp2
   repeat (go_quiet (fail); try go_wp2)
   go_ret
   exact ⟨tE, tB⟩

end Go.Proofs.Ytanoaneoanpkkaa.ZFnNotices
