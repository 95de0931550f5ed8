/- The machine side: for each Go function a Lean function and the contract that the Go code answers as it does; printed by program (wip/tmpl/pprint.sh). -/
import Derived.Test.YtanoaneoanpkkaaZFnExactSendNoticex0
import Derived.Test.YtanoaneoanpkkaaZFnExactSendNoticex1
import Derived.Test.YtanoaneoanpkkaaZFnExactSendNoticex2
import Derived.Test.YtanoaneoanpkkaaZFnExactSendNoticex3
import Derived.Test.YtanoaneoanpkkaaZFnExactSendNoticex5
namespace Go.Proofs.Ytanoaneoanpkkaa.ZFnExactSendNotice
open Go.RowKit Go.Proofs.YtanoaneoanpkkaaW.PrintWords Go.Proofs.YtanoaneoanpkkaaW.PrintLast Go.Proofs.YtanoaneoanpkkaaW.PrintMore
attribute [local go_sem] max2_int min2_int max_two min_two max_three min_three max_four min_four   -- for this text's walks alone
set_option linter.unusedVariables false
set_option linter.unusedSimpArgs false

theorem tN6 {P : Prop} (h : P := by intro k_ hk_ hs_; first | exact hk_ hs_ | exact hk_.1 hs_ | exact hk_.2 hs_ | exact hk_.1.1 hs_ | exact hk_.1.2 hs_ | exact hk_.2.1 hs_ | exact hk_.2.2 hs_ | exact hk_.1.1.1 hs_ | exact hk_.1.1.2 hs_ | exact hk_.1.2.1 hs_ | exact hk_.1.2.2 hs_ | exact hk_.2.1.1 hs_ | exact hk_.2.1.2 hs_ | exact hk_.2.2.1 hs_ | exact hk_.2.2.2 hs_ | exact hk_.1.1.1.1 hs_ | exact hk_.1.1.1.2 hs_ | exact hk_.1.1.2.1 hs_ | exact hk_.1.1.2.2 hs_ | exact hk_.1.2.1.1 hs_ | exact hk_.1.2.1.2 hs_ | exact hk_.1.2.2.1 hs_ | exact hk_.1.2.2.2 hs_ | exact hk_.2.1.1.1 hs_ | exact hk_.2.1.1.2 hs_ | exact hk_.2.1.2.1 hs_ | exact hk_.2.1.2.2 hs_ | exact hk_.2.2.1.1 hs_ | exact hk_.2.2.1.2 hs_ | exact hk_.2.2.2.1 hs_ | exact hk_.2.2.2.2 hs_ | exact hk_.1.1.1.1.1 hs_ | exact hk_.1.1.1.1.2 hs_ | exact hk_.1.1.1.2.1 hs_ | exact hk_.1.1.1.2.2 hs_ | exact hk_.1.1.2.1.1 hs_ | exact hk_.1.1.2.1.2 hs_ | exact hk_.1.1.2.2.1 hs_ | exact hk_.1.1.2.2.2 hs_ | exact hk_.1.2.1.1.1 hs_ | exact hk_.1.2.1.1.2 hs_ | exact hk_.1.2.1.2.1 hs_ | exact hk_.1.2.1.2.2 hs_ | exact hk_.1.2.2.1.1 hs_ | exact hk_.1.2.2.1.2 hs_ | exact hk_.1.2.2.2.1 hs_ | exact hk_.1.2.2.2.2 hs_ | exact hk_.2.1.1.1.1 hs_ | exact hk_.2.1.1.1.2 hs_ | exact hk_.2.1.1.2.1 hs_ | exact hk_.2.1.1.2.2 hs_ | exact hk_.2.1.2.1.1 hs_ | exact hk_.2.1.2.1.2 hs_ | exact hk_.2.1.2.2.1 hs_ | exact hk_.2.1.2.2.2 hs_ | exact hk_.2.2.1.1.1 hs_ | exact hk_.2.2.1.1.2 hs_ | exact hk_.2.2.1.2.1 hs_ | exact hk_.2.2.1.2.2 hs_ | exact hk_.2.2.2.1.1 hs_ | exact hk_.2.2.2.1.2 hs_ | exact hk_.2.2.2.2.1 hs_ | exact hk_.2.2.2.2.2 hs_ | exact hk_.1.1.1.1.1.1 hs_ | exact hk_.1.1.1.1.1.2 hs_ | exact hk_.1.1.1.1.2.1 hs_ | exact hk_.1.1.1.1.2.2 hs_ | exact hk_.1.1.1.2.1.1 hs_ | exact hk_.1.1.1.2.1.2 hs_ | exact hk_.1.1.1.2.2.1 hs_ | exact hk_.1.1.1.2.2.2 hs_ | exact hk_.1.1.2.1.1.1 hs_ | exact hk_.1.1.2.1.1.2 hs_ | exact hk_.1.1.2.1.2.1 hs_ | exact hk_.1.1.2.1.2.2 hs_ | exact hk_.1.1.2.2.1.1 hs_ | exact hk_.1.1.2.2.1.2 hs_ | exact hk_.1.1.2.2.2.1 hs_ | exact hk_.1.1.2.2.2.2 hs_ | exact hk_.1.2.1.1.1.1 hs_ | exact hk_.1.2.1.1.1.2 hs_ | exact hk_.1.2.1.1.2.1 hs_ | exact hk_.1.2.1.1.2.2 hs_ | exact hk_.1.2.1.2.1.1 hs_ | exact hk_.1.2.1.2.1.2 hs_ | exact hk_.1.2.1.2.2.1 hs_ | exact hk_.1.2.1.2.2.2 hs_ | exact hk_.1.2.2.1.1.1 hs_ | exact hk_.1.2.2.1.1.2 hs_ | exact hk_.1.2.2.1.2.1 hs_ | exact hk_.1.2.2.1.2.2 hs_ | exact hk_.1.2.2.2.1.1 hs_ | exact hk_.1.2.2.2.1.2 hs_ | exact hk_.1.2.2.2.2.1 hs_ | exact hk_.1.2.2.2.2.2 hs_ | exact hk_.2.1.1.1.1.1 hs_ | exact hk_.2.1.1.1.1.2 hs_ | exact hk_.2.1.1.1.2.1 hs_ | exact hk_.2.1.1.1.2.2 hs_ | exact hk_.2.1.1.2.1.1 hs_ | exact hk_.2.1.1.2.1.2 hs_ | exact hk_.2.1.1.2.2.1 hs_ | exact hk_.2.1.1.2.2.2 hs_ | exact hk_.2.1.2.1.1.1 hs_ | exact hk_.2.1.2.1.1.2 hs_ | exact hk_.2.1.2.1.2.1 hs_ | exact hk_.2.1.2.1.2.2 hs_ | exact hk_.2.1.2.2.1.1 hs_ | exact hk_.2.1.2.2.1.2 hs_ | exact hk_.2.1.2.2.2.1 hs_ | exact hk_.2.1.2.2.2.2 hs_ | exact hk_.2.2.1.1.1.1 hs_ | exact hk_.2.2.1.1.1.2 hs_ | exact hk_.2.2.1.1.2.1 hs_ | exact hk_.2.2.1.1.2.2 hs_ | exact hk_.2.2.1.2.1.1 hs_ | exact hk_.2.2.1.2.1.2 hs_ | exact hk_.2.2.1.2.2.1 hs_ | exact hk_.2.2.1.2.2.2 hs_ | exact hk_.2.2.2.1.1.1 hs_ | exact hk_.2.2.2.1.1.2 hs_ | exact hk_.2.2.2.1.2.1 hs_ | exact hk_.2.2.2.1.2.2 hs_ | exact hk_.2.2.2.2.1.1 hs_ | exact hk_.2.2.2.2.1.2 hs_ | exact hk_.2.2.2.2.2.1 hs_ | exact hk_.2.2.2.2.2.2 hs_) : P := h
theorem tP6 {P : Prop} (h : P := by intro k_ hk_; (repeat' (first | exact True.intro | (with_reducible refine And.intro ?_ ?_))); all_goals (first | exact hk_ | exact hk_.1 | exact hk_.2 | exact hk_.1.1 | exact hk_.1.2 | exact hk_.2.1 | exact hk_.2.2 | exact hk_.1.1.1 | exact hk_.1.1.2 | exact hk_.1.2.1 | exact hk_.1.2.2 | exact hk_.2.1.1 | exact hk_.2.1.2 | exact hk_.2.2.1 | exact hk_.2.2.2 | exact hk_.1.1.1.1 | exact hk_.1.1.1.2 | exact hk_.1.1.2.1 | exact hk_.1.1.2.2 | exact hk_.1.2.1.1 | exact hk_.1.2.1.2 | exact hk_.1.2.2.1 | exact hk_.1.2.2.2 | exact hk_.2.1.1.1 | exact hk_.2.1.1.2 | exact hk_.2.1.2.1 | exact hk_.2.1.2.2 | exact hk_.2.2.1.1 | exact hk_.2.2.1.2 | exact hk_.2.2.2.1 | exact hk_.2.2.2.2 | exact hk_.1.1.1.1.1 | exact hk_.1.1.1.1.2 | exact hk_.1.1.1.2.1 | exact hk_.1.1.1.2.2 | exact hk_.1.1.2.1.1 | exact hk_.1.1.2.1.2 | exact hk_.1.1.2.2.1 | exact hk_.1.1.2.2.2 | exact hk_.1.2.1.1.1 | exact hk_.1.2.1.1.2 | exact hk_.1.2.1.2.1 | exact hk_.1.2.1.2.2 | exact hk_.1.2.2.1.1 | exact hk_.1.2.2.1.2 | exact hk_.1.2.2.2.1 | exact hk_.1.2.2.2.2 | exact hk_.2.1.1.1.1 | exact hk_.2.1.1.1.2 | exact hk_.2.1.1.2.1 | exact hk_.2.1.1.2.2 | exact hk_.2.1.2.1.1 | exact hk_.2.1.2.1.2 | exact hk_.2.1.2.2.1 | exact hk_.2.1.2.2.2 | exact hk_.2.2.1.1.1 | exact hk_.2.2.1.1.2 | exact hk_.2.2.1.2.1 | exact hk_.2.2.1.2.2 | exact hk_.2.2.2.1.1 | exact hk_.2.2.2.1.2 | exact hk_.2.2.2.2.1 | exact hk_.2.2.2.2.2 | exact hk_.1.1.1.1.1.1 | exact hk_.1.1.1.1.1.2 | exact hk_.1.1.1.1.2.1 | exact hk_.1.1.1.1.2.2 | exact hk_.1.1.1.2.1.1 | exact hk_.1.1.1.2.1.2 | exact hk_.1.1.1.2.2.1 | exact hk_.1.1.1.2.2.2 | exact hk_.1.1.2.1.1.1 | exact hk_.1.1.2.1.1.2 | exact hk_.1.1.2.1.2.1 | exact hk_.1.1.2.1.2.2 | exact hk_.1.1.2.2.1.1 | exact hk_.1.1.2.2.1.2 | exact hk_.1.1.2.2.2.1 | exact hk_.1.1.2.2.2.2 | exact hk_.1.2.1.1.1.1 | exact hk_.1.2.1.1.1.2 | exact hk_.1.2.1.1.2.1 | exact hk_.1.2.1.1.2.2 | exact hk_.1.2.1.2.1.1 | exact hk_.1.2.1.2.1.2 | exact hk_.1.2.1.2.2.1 | exact hk_.1.2.1.2.2.2 | exact hk_.1.2.2.1.1.1 | exact hk_.1.2.2.1.1.2 | exact hk_.1.2.2.1.2.1 | exact hk_.1.2.2.1.2.2 | exact hk_.1.2.2.2.1.1 | exact hk_.1.2.2.2.1.2 | exact hk_.1.2.2.2.2.1 | exact hk_.1.2.2.2.2.2 | exact hk_.2.1.1.1.1.1 | exact hk_.2.1.1.1.1.2 | exact hk_.2.1.1.1.2.1 | exact hk_.2.1.1.1.2.2 | exact hk_.2.1.1.2.1.1 | exact hk_.2.1.1.2.1.2 | exact hk_.2.1.1.2.2.1 | exact hk_.2.1.1.2.2.2 | exact hk_.2.1.2.1.1.1 | exact hk_.2.1.2.1.1.2 | exact hk_.2.1.2.1.2.1 | exact hk_.2.1.2.1.2.2 | exact hk_.2.1.2.2.1.1 | exact hk_.2.1.2.2.1.2 | exact hk_.2.1.2.2.2.1 | exact hk_.2.1.2.2.2.2 | exact hk_.2.2.1.1.1.1 | exact hk_.2.2.1.1.1.2 | exact hk_.2.2.1.1.2.1 | exact hk_.2.2.1.1.2.2 | exact hk_.2.2.1.2.1.1 | exact hk_.2.2.1.2.1.2 | exact hk_.2.2.1.2.2.1 | exact hk_.2.2.1.2.2.2 | exact hk_.2.2.2.1.1.1 | exact hk_.2.2.2.1.1.2 | exact hk_.2.2.2.1.2.1 | exact hk_.2.2.2.1.2.2 | exact hk_.2.2.2.2.1.1 | exact hk_.2.2.2.2.1.2 | exact hk_.2.2.2.2.2.1 | exact hk_.2.2.2.2.2.2)) : P := h
/-! ### laws_FnExactSendNotice: function 10 -/
def laws_FnExactSendNotice.f (k : Nat) (l0_0 : List (S153)) (a1 : Int) (a2 : Int) (a3 : Int) : Option (Bool) := (laws_szMailbox.f l0_0 1048576).bind fun t264 => (if t264 < 0 then (some true) else ((laws_toMailbox.f k l0_0).bind fun t265 => ((spec_SendNotice.f k t265 a1 a2 a3).bind fun bt268 => ((laws_toMailbox.f k l0_0).bind fun t273 => ((impl_SendNotice.f k t273 a1 a2 a3).bind fun bt277 => ((laws_eqMailbox.f k bt277.1 bt268.1).bind fun t282 => (if t282 = true then (if (bt277.2 != bt268.2) = true then (some false) else ((laws_toMailbox.f k l0_0).bind fun t283 => ((laws_eqMailbox.f k t273 t283).bind fun t286 => (if t286 = true then ((laws_markMailbox.f k t273 1).bind fun bt287 => (if bt287.1 < 0 then (some false) else ((laws_eqMailbox.f k bt277.1 bt268.1).bind fun t289 => (if t289 = true then ((laws_markMailbox.f k bt277.1 1).bind fun bt290 => ((laws_heldMailbox.f k bt290.2 1).bind fun t292 => (if t292 < 0 then (some false) else (if t292 = bt290.1 then ((laws_toMailbox.f k l0_0).bind fun t293 => ((impl_SendNotice.f k t293 a1 a2 a3).bind fun bt296 => ((laws_eqMailbox.f k bt296.1 bt268.1).bind fun t301 => (if t301 = true then (if (bt296.2 != bt268.2) = true then (some false) else ((laws_heldMailbox.f k bt290.2 1).bind fun t302 => (if t302 < 0 then (some false) else (if t302 = bt290.1 then (some true) else (some false))))) else (some false))))) else (some false))))) else (some false))))) else (some false))))) else (some false))))))))
theorem laws_FnExactSendNotice.mono : ∀ a0 a1 a2 a3 k, LeO (laws_FnExactSendNotice.f k a0 a1 a2 a3) (laws_FnExactSendNotice.f (k + 1) a0 a1 a2 a3) := by
 intro a0 a1 a2 a3 k
 unfold laws_FnExactSendNotice.f
 repeat' first
   | (with_reducible exact impl_SendNotice.mono _ _ _ _ _)
   | (with_reducible exact laws_eqMailbox.mono _ _ _)
   | (with_reducible exact laws_heldMailbox.mono _ _ _)
   | (with_reducible exact laws_markMailbox.mono _ _ _)
   | (with_reducible exact laws_toMailbox.mono _ _)
   | (with_reducible exact spec_SendNotice.mono _ _ _ _ _)
   | (with_reducible exact LeO.refl _)
   | (with_reducible exact LeO.none _)
   | (with_reducible refine LeO.ite ?_ ?_)
   | (with_reducible refine LeO.bind ?_ (fun _ => ?_))
   | exact impl_SendNotice.mono _ _ _ _ _
   | exact laws_eqMailbox.mono _ _ _
   | exact laws_heldMailbox.mono _ _ _
   | exact laws_markMailbox.mono _ _ _
   | exact laws_toMailbox.mono _ _
   | exact spec_SendNotice.mono _ _ _ _ _
   | exact LeO.none _
   | refine LeO.ite ?_ ?_
   | refine LeO.bind ?_ (fun _ => ?_)
set_option maxHeartbeats 8000000 in
set_option maxRecDepth 100000 in
theorem laws_FnExactSendNotice.calls (k : Nat) (A0_0 : Option Addr) (c0_0 : Nat) (l0_0 : List (S153)) (a1 : Int) (a2 : Int) (a3 : Int) (r : Bool) (w : World) (hr0_0 : Kd.C k153 w A0_0 l0_0.length l0_0) (hc0_0 : l0_0.length ≤ c0_0) (hT_ : r = true) (h : laws_FnExactSendNotice.f k l0_0 a1 a2 a3 = some r) :
  Calls Try.prog 10 #[.agg #[.slice A0_0 l0_0.length c0_0], .int .i64 a1, .int .i64 a2, .int .i64 a3] w fun e w' => e = .returned (.bool r) ∧ Below w.heap.size w w' := by
 have hu61 := Try.underlying61
 have hu65 := Try.underlying65
 have HR0_0 := Aside0.mk hr0_0
 have HC0_0 := Aside0.mk hc0_0
 clear hr0_0 hc0_0
 have HB := Aside0.mk (Below.refl w.heap.size w)
 have H : ((laws_szMailbox.f l0_0 1048576).bind fun t264 => (if t264 < 0 then (some true) else ((laws_toMailbox.f k l0_0).bind fun t265 => ((spec_SendNotice.f k t265 a1 a2 a3).bind fun bt268 => ((laws_toMailbox.f k l0_0).bind fun t273 => ((impl_SendNotice.f k t273 a1 a2 a3).bind fun bt277 => ((laws_eqMailbox.f k bt277.1 bt268.1).bind fun t282 => (if t282 = true then (if (bt277.2 != bt268.2) = true then (some false) else ((laws_toMailbox.f k l0_0).bind fun t283 => ((laws_eqMailbox.f k t273 t283).bind fun t286 => (if t286 = true then ((laws_markMailbox.f k t273 1).bind fun bt287 => (if bt287.1 < 0 then (some false) else ((laws_eqMailbox.f k bt277.1 bt268.1).bind fun t289 => (if t289 = true then ((laws_markMailbox.f k bt277.1 1).bind fun bt290 => ((laws_heldMailbox.f k bt290.2 1).bind fun t292 => (if t292 < 0 then (some false) else (if t292 = bt290.1 then ((laws_toMailbox.f k l0_0).bind fun t293 => ((impl_SendNotice.f k t293 a1 a2 a3).bind fun bt296 => ((laws_eqMailbox.f k bt296.1 bt268.1).bind fun t301 => (if t301 = true then (if (bt296.2 != bt268.2) = true then (some false) else ((laws_heldMailbox.f k bt290.2 1).bind fun t302 => (if t302 < 0 then (some false) else (if t302 = bt290.1 then (some true) else (some false))))) else (some false))))) else (some false))))) else (some false))))) else (some false))))) else (some false))))))))) = some r := h
 clear h
 replace H := Option.bind_eq_some_iff.mp H
 obtain ⟨t264, A50, H⟩ := H
 try dsimp only at H
 have A5 := Aside0.mk A50
 clear A50
 by_cases c6 : t264 < 0
 ·rw [if_pos c6] at H
  have c6b0 : decide (t264 < 0) = true := decide_eq_true c6
  clear c6
  obtain rfl := Option.some.inj H
  go_enter Try.func10, Try.ntmps10
  go_wp2_with (first | ((with_reducible refine gate_dst (N := 4) rfl ?_); refine box_event ?hg (N := 4) ?hd (cs := #[.slice A0_0 l0_0.length c0_0]) (t := 61) ?hr ?_; (case hd => rfl); (case hg => rfl); (case hr => exact tG); intro gb263 hg w7 hbox hb; have BK263 := Aside0.mk (hbox); have GW263 := gW HB hg; have GE263 := gW HB hg; replace HB := bH HB hb; clear hb hbox hg; obtain ⟨hcz8_0, hfz8_0⟩ := bc1 BK263.out) | ((with_reducible refine gate_callee (f := 39) rfl ?_); refine goesL_ (some 22) rfl rfl Try.func39 (by kernel_rfl) rfl #[.agg #[.slice A0_0 l0_0.length c0_0], .int .i64 1048576] rfl tL ?_; (with_reducible refine (laws_szMailbox.calls _ _ l0_0 1048576 t264 _ ?side1 ?side2 A5.out).mono ?_); (case side1 => repeat (first | exact (Kd.C_below HR0_0.out HB.out) | (with_reducible refine Kd.C_alloc ?_ _) | (with_reducible refine Kd.C_drewN ?_ _) | (with_reducible refine Kd.C_drew ?_))); (case side2 => exact HC0_0.out); rintro e w9 ⟨rfl, hb⟩; refine ⟨_, rfl, ?_⟩; replace BK263 := bB BK263 hb; replace HB := bH HB hb; (try clear hb); (try clear hb2); (try clear hk); (try clear hi)))
  go_ret
  exact ⟨tE, tB⟩
 rw [if_neg c6] at H
 have c6b0 : decide (t264 < 0) = false := decide_eq_false c6
 clear c6
 replace H := Option.bind_eq_some_iff.mp H
 obtain ⟨t265, A100, H⟩ := H
 try dsimp only at H
 have A10 := Aside0.mk A100
 clear A100
 replace H := Option.bind_eq_some_iff.mp H
 obtain ⟨⟨t268, t271⟩, A110, H⟩ := H
 try dsimp only at H
 have A11 := Aside0.mk A110
 clear A110
 replace H := Option.bind_eq_some_iff.mp H
 obtain ⟨t273, A120, H⟩ := H
 try dsimp only at H
 have A12 := Aside0.mk A120
 clear A120
 replace H := Option.bind_eq_some_iff.mp H
 obtain ⟨⟨t277, t280⟩, A130, H⟩ := H
 try dsimp only at H
 have A13 := Aside0.mk A130
 clear A130
 replace H := Option.bind_eq_some_iff.mp H
 obtain ⟨t282, A140, H⟩ := H
 try dsimp only at H
 have A14 := Aside0.mk A140
 clear A140
 by_cases c15 : t282 = true
 ·subst c15
  have H1 : (if (t280 != t271) = true then (some false) else ((laws_toMailbox.f k l0_0).bind fun t283 => ((laws_eqMailbox.f k t273 t283).bind fun t286 => (if t286 = true then ((laws_markMailbox.f k t273 1).bind fun bt287 => (if bt287.1 < 0 then (some false) else ((laws_eqMailbox.f k t277 t268).bind fun t289 => (if t289 = true then ((laws_markMailbox.f k t277 1).bind fun bt290 => ((laws_heldMailbox.f k bt290.2 1).bind fun t292 => (if t292 < 0 then (some false) else (if t292 = bt290.1 then ((laws_toMailbox.f k l0_0).bind fun t293 => ((impl_SendNotice.f k t293 a1 a2 a3).bind fun bt296 => ((laws_eqMailbox.f k bt296.1 t268).bind fun t301 => (if t301 = true then (if (bt296.2 != t271) = true then (some false) else ((laws_heldMailbox.f k bt290.2 1).bind fun t302 => (if t302 < 0 then (some false) else (if t302 = bt290.1 then (some true) else (some false))))) else (some false))))) else (some false))))) else (some false))))) else (some false))))) = some r := by rw [if_pos rfl] at H; exact H
  clear H
  have H := H1
  clear H1
  by_cases c16 : (t280 != t271) = true
  ·rw [if_pos c16] at H
   have c16b0 : (t280 != t271) = true := c16
   (try (have c16b1 : decide (t280 = t271) = false := by simpa using c16))
   (try (have c16b2 : (t280 == t271) = false := by simpa using c16))
   (try (have c16b3 : ¬ (t280 = t271) := by simpa using c16))
   clear c16
   exact absurd ((Option.some.inj H).trans hT_) (by decide)
  rw [if_neg c16] at H
  have c16b0 : (t280 != t271) = false := by simpa using c16
  (try (have c16b1 : decide (t280 = t271) = true := by simpa using c16))
  (try (have c16b2 : (t280 == t271) = true := by simpa using c16))
  clear c16
  replace H := Option.bind_eq_some_iff.mp H
  obtain ⟨t283, A170, H⟩ := H
  try dsimp only at H
  have A17 := Aside0.mk A170
  clear A170
  replace H := Option.bind_eq_some_iff.mp H
  obtain ⟨t286, A180, H⟩ := H
  try dsimp only at H
  have A18 := Aside0.mk A180
  clear A180
  by_cases c19 : t286 = true
  ·subst c19
   have H1 : ((laws_markMailbox.f k t273 1).bind fun bt287 => (if bt287.1 < 0 then (some false) else ((laws_eqMailbox.f k t277 t268).bind fun t289 => (if t289 = true then ((laws_markMailbox.f k t277 1).bind fun bt290 => ((laws_heldMailbox.f k bt290.2 1).bind fun t292 => (if t292 < 0 then (some false) else (if t292 = bt290.1 then ((laws_toMailbox.f k l0_0).bind fun t293 => ((impl_SendNotice.f k t293 a1 a2 a3).bind fun bt296 => ((laws_eqMailbox.f k bt296.1 t268).bind fun t301 => (if t301 = true then (if (bt296.2 != t271) = true then (some false) else ((laws_heldMailbox.f k bt290.2 1).bind fun t302 => (if t302 < 0 then (some false) else (if t302 = bt290.1 then (some true) else (some false))))) else (some false))))) else (some false))))) else (some false))))) = some r := by rw [if_pos rfl] at H; exact H
   clear H
   have H := H1
   clear H1
   replace H := Option.bind_eq_some_iff.mp H
   obtain ⟨⟨t287, t288⟩, A200, H⟩ := H
   try dsimp only at H
   have A20 := Aside0.mk A200
   clear A200
   by_cases c21 : t287 < 0
   ·rw [if_pos c21] at H
    have c21b0 : decide (t287 < 0) = true := decide_eq_true c21
    clear c21
    exact absurd ((Option.some.inj H).trans hT_) (by decide)
   rw [if_neg c21] at H
   have c21b0 : decide (t287 < 0) = false := decide_eq_false c21
   clear c21
   replace H := Option.bind_eq_some_iff.mp H
   obtain ⟨t289, A220, H⟩ := H
   try dsimp only at H
   have A22 := Aside0.mk A220
   clear A220
   by_cases c23 : t289 = true
   ·subst c23
    have H1 : ((laws_markMailbox.f k t277 1).bind fun bt290 => ((laws_heldMailbox.f k bt290.2 1).bind fun t292 => (if t292 < 0 then (some false) else (if t292 = bt290.1 then ((laws_toMailbox.f k l0_0).bind fun t293 => ((impl_SendNotice.f k t293 a1 a2 a3).bind fun bt296 => ((laws_eqMailbox.f k bt296.1 t268).bind fun t301 => (if t301 = true then (if (bt296.2 != t271) = true then (some false) else ((laws_heldMailbox.f k bt290.2 1).bind fun t302 => (if t302 < 0 then (some false) else (if t302 = bt290.1 then (some true) else (some false))))) else (some false))))) else (some false))))) = some r := by rw [if_pos rfl] at H; exact H
    clear H
    have H := H1
    clear H1
    replace H := Option.bind_eq_some_iff.mp H
    obtain ⟨⟨t290, t291⟩, A240, H⟩ := H
    try dsimp only at H
    have A24 := Aside0.mk A240
    clear A240
    replace H := Option.bind_eq_some_iff.mp H
    obtain ⟨t292, A250, H⟩ := H
    try dsimp only at H
    have A25 := Aside0.mk A250
    clear A250
    by_cases c26 : t292 < 0
    ·rw [if_pos c26] at H
     have c26b0 : decide (t292 < 0) = true := decide_eq_true c26
     clear c26
     exact absurd ((Option.some.inj H).trans hT_) (by decide)
    rw [if_neg c26] at H
    have c26b0 : decide (t292 < 0) = false := decide_eq_false c26
    clear c26
    by_cases c27 : t292 = t290
    ·rw [if_pos c27] at H
     have c27b0 : (t292 == t290) = true := beq_iff_eq.mpr c27
     have c27b1 : (t292 != t290) = false := bne_eq_false_iff_eq.mpr c27
     clear c27
     replace H := Option.bind_eq_some_iff.mp H
     obtain ⟨t293, A280, H⟩ := H
     try dsimp only at H
     have A28 := Aside0.mk A280
     clear A280
     replace H := Option.bind_eq_some_iff.mp H
     obtain ⟨⟨t296, t299⟩, A290, H⟩ := H
     try dsimp only at H
     have A29 := Aside0.mk A290
     clear A290
     replace H := Option.bind_eq_some_iff.mp H
     obtain ⟨t301, A300, H⟩ := H
     try dsimp only at H
     have A30 := Aside0.mk A300
     clear A300
     by_cases c31 : t301 = true
     ·subst c31
      have H1 : (if (t299 != t271) = true then (some false) else ((laws_heldMailbox.f k t291 1).bind fun t302 => (if t302 < 0 then (some false) else (if t302 = t290 then (some true) else (some false))))) = some r := by rw [if_pos rfl] at H; exact H
      clear H
      have H := H1
      clear H1
      by_cases c32 : (t299 != t271) = true
      ·rw [if_pos c32] at H
       have c32b0 : (t299 != t271) = true := c32
       (try (have c32b1 : decide (t299 = t271) = false := by simpa using c32))
       (try (have c32b2 : (t299 == t271) = false := by simpa using c32))
       (try (have c32b3 : ¬ (t299 = t271) := by simpa using c32))
       clear c32
       exact absurd ((Option.some.inj H).trans hT_) (by decide)
      rw [if_neg c32] at H
      have c32b0 : (t299 != t271) = false := by simpa using c32
      (try (have c32b1 : decide (t299 = t271) = true := by simpa using c32))
      (try (have c32b2 : (t299 == t271) = true := by simpa using c32))
      clear c32
      replace H := Option.bind_eq_some_iff.mp H
      obtain ⟨t302, A330, H⟩ := H
      try dsimp only at H
      have A33 := Aside0.mk A330
      clear A330
      by_cases c34 : t302 < 0
      ·rw [if_pos c34] at H
       have c34b0 : decide (t302 < 0) = true := decide_eq_true c34
       clear c34
       exact absurd ((Option.some.inj H).trans hT_) (by decide)
      rw [if_neg c34] at H
      have c34b0 : decide (t302 < 0) = false := decide_eq_false c34
      clear c34
      by_cases c35 : t302 = t290
      ·rw [if_pos c35] at H
       have c35b0 : (t302 == t290) = true := beq_iff_eq.mpr c35
       have c35b1 : (t302 != t290) = false := bne_eq_false_iff_eq.mpr c35
       clear c35
       obtain rfl := Option.some.inj H
       go_enter Try.func10, Try.ntmps10
       try go_wp2_with (first | ((with_reducible refine gate_dst (N := 4) rfl ?_); refine box_event ?hg (N := 4) ?hd (cs := #[.slice A0_0 l0_0.length c0_0]) (t := 61) ?hr ?_; (case hd => rfl); (case hg => rfl); (case hr => exact tG); intro gb263 hg w36 hbox hb; have BK263 := Aside0.mk (hbox); have GW263 := gW HB hg; have GE263 := gW HB hg; replace HB := bH HB hb; clear hb hbox hg; obtain ⟨hcz37_0, hfz37_0⟩ := bc1 BK263.out) | ((with_reducible refine gate_callee (f := 39) rfl ?_); refine goesL_ (some 22) rfl rfl Try.func39 (by kernel_rfl) rfl #[.agg #[.slice A0_0 l0_0.length c0_0], .int .i64 1048576] rfl tL ?_; (with_reducible refine (laws_szMailbox.calls _ _ l0_0 1048576 t264 _ ?side1 ?side2 A5.out).mono ?_); (case side1 => repeat (first | exact (Kd.C_below HR0_0.out HB.out) | (with_reducible refine Kd.C_alloc ?_ _) | (with_reducible refine Kd.C_drewN ?_ _) | (with_reducible refine Kd.C_drew ?_))); (case side2 => exact HC0_0.out); rintro e w38 ⟨rfl, hb⟩; refine ⟨_, rfl, ?_⟩; replace BK263 := bB BK263 hb; replace HB := bH HB hb; (try clear hb); (try clear hb2); (try clear hk); (try clear hi); obtain ⟨hcz39_0, hfz39_0⟩ := bc1 BK263.out) | ((with_reducible refine gate_callee (f := 41) rfl ?_); refine goesL_ (some 27) rfl rfl Try.func41 (by kernel_rfl) rfl #[.agg #[.slice A0_0 l0_0.length c0_0]] rfl tL ?_; (with_reducible refine (laws_toMailbox.calls k _ _ l0_0 t265 _ ?side1 ?side2 A10.out).mono ?_); (case side1 => repeat (first | exact (Kd.C_below HR0_0.out HB.out) | (with_reducible refine Kd.C_alloc ?_ _) | (with_reducible refine Kd.C_drewN ?_ _) | (with_reducible refine Kd.C_drew ?_))); (case side2 => exact HC0_0.out); rintro e w40 ⟨v266, rfl, ho0, hb⟩; refine ⟨_, rfl, ?_⟩; have HO267 := Aside0.mk (Kd.R_lower ho0 (below_size tB)); replace BK263 := bB BK263 hb; replace HB := bH HB hb; (try clear hb); (try clear hb2); (try clear hk); (try clear hi); (try clear ho0); obtain ⟨Ao41, co41, eo41⟩ := Kd.R_slice HO267.out; subst eo41) | ((with_reducible refine gate_callee (f := 57) rfl ?_); refine goesL_ (some 31) rfl rfl Try.func57 (by kernel_rfl) rfl #[.agg #[.slice Ao41 t265.length co41], .int .i64 a1, .int .i64 a2, .int .i64 a3] rfl tL ?_; (with_reducible refine (spec_SendNotice.calls k _ _ t265 a1 a2 a3 t268 t271 _ ?side1 ?side2 A11.out).mono ?_); (case side1 => repeat (first | exact (Kd.R_reads' HO267.out).2.2 | (with_reducible refine Kd.C_alloc ?_ _) | (with_reducible refine Kd.C_drewN ?_ _) | (with_reducible refine Kd.C_drew ?_))); (case side2 => exact (Kd.R_reads' HO267.out).2.1); rintro e w42 ⟨v269, rfl, ho0, hb⟩; refine ⟨_, rfl, ?_⟩; have HO270 := Aside0.mk (Kd.R_lower (Kd.R_new' ho0 (Kd.R_lt (tR HO267))) (below_size tB)); replace HO267 := Aside0.mk (Kd.R_elder' (tR HO267) (Kd.R_base ho0) hb); replace BK263 := bB BK263 hb; replace HB := bH HB hb; (try clear hb); (try clear hb2); (try clear hk); (try clear hi); (try clear ho0)) | ((with_reducible refine gate_dst (N := 10) rfl ?_); refine box_event ?hg (N := 10) ?hd (cs := #[.slice none 0 0]) (t := 65) ?hr ?_; (case hd => rfl); (case hg => rfl); (case hr => exact tG); intro gb272 hg w43 hbox hb; replace HO267 := Aside0.mk (Kd.R_below (tR HO267) hb); replace HO270 := Aside0.mk (Kd.R_below (tR HO270) hb); have BK272 := Aside0.mk (hbox); have GW272 := gW HB hg; have GE272 := gW HB hg; replace HB := bH HB hb; have NB263_272 := nL BK263 hg; have NB272_263 := nR BK263 hg; replace BK263 := bB BK263 hb; clear hb hbox hg; obtain ⟨Ao44, co44, eo44⟩ := Kd.R_slice HO270.out; subst eo44; have hnb45 := NB272_263.out; have hnc45 := NB263_272.out; obtain ⟨hcz46_0, hfz46_0⟩ := bc1 BK272.out; obtain ⟨hcz47_0, hfz47_0⟩ := bc1 BK263.out) | ((with_reducible refine gate_callee (f := 41) rfl ?_); refine goesL_ (some 35) rfl rfl Try.func41 (by kernel_rfl) rfl #[.agg #[.slice A0_0 l0_0.length c0_0]] rfl tL ?_; (with_reducible refine (laws_toMailbox.calls k _ _ l0_0 t273 _ ?side1 ?side2 A12.out).mono ?_); (case side1 => exact Kd.C_below HR0_0.out tB); (case side2 => exact HC0_0.out); rintro e w48 ⟨v274, rfl, ho0, hb⟩; refine ⟨_, rfl, ?_⟩; have HO275 := Aside0.mk (Kd.R_lower (Kd.R_new' (Kd.R_new' ho0 (Kd.R_lt (by (with_reducible repeat (first | apply Kd.R_alloc | apply Kd.R_drewN | apply Kd.R_drew)); exact (Kd.R_mono (Kd.R_far (p := ⟨gb272, 0, none⟩) (Kd.R_types HO267.out BK272.out (by decide)) (fun _ hk => hk.2) (.slice Ao44 t268.length co44)) (fun _ h_ => h_.1))))) (Kd.R_lt (by (with_reducible repeat (first | apply Kd.R_alloc | apply Kd.R_drewN | apply Kd.R_drew)); exact (Kd.R_mono (Kd.R_far (p := ⟨gb272, 0, none⟩) (Kd.R_types HO270.out BK272.out (by decide)) (fun _ hk => hk.2) (.slice Ao44 t268.length co44)) (fun _ h_ => h_.1))))) (below_size tB)); replace HO267 := Aside0.mk (Kd.R_elder' (by (with_reducible repeat (first | apply Kd.R_alloc | apply Kd.R_drewN | apply Kd.R_drew)); exact (Kd.R_mono (Kd.R_far (p := ⟨gb272, 0, none⟩) (Kd.R_types HO267.out BK272.out (by decide)) (fun _ hk => hk.2) (.slice Ao44 t268.length co44)) (fun _ h_ => h_.1))) (Kd.R_base ho0) hb); replace HO270 := Aside0.mk (Kd.R_elder' (by (with_reducible repeat (first | apply Kd.R_alloc | apply Kd.R_drewN | apply Kd.R_drew)); exact (Kd.R_mono (Kd.R_far (p := ⟨gb272, 0, none⟩) (Kd.R_types HO270.out BK272.out (by decide)) (fun _ hk => hk.2) (.slice Ao44 t268.length co44)) (fun _ h_ => h_.1))) (Kd.R_base ho0) hb); replace BK263 := Aside0.mk (blk_below (g := gb263) (o := .cells #[.slice A0_0 l0_0.length c0_0] 61 (0, 0)) (kF NB263_272 BK263) hb); replace BK272 := Aside0.mk (blk_below (g := gb272) (o := .cells #[.slice Ao44 t268.length co44] 65 (0, 0)) (by (with_reducible repeat (first | refine blk_drewN ?_ _ | refine blk_drew ?_ | refine blk_alloc ?_ _)); refine blk_put (cs := #[.slice none 0 0]) ?_ 0 _ rfl; (with_reducible repeat (first | refine blk_drewN ?_ _ | refine blk_drew ?_ | refine blk_alloc ?_ _)); exact BK272.out) hb); replace HB := bH HB hb; (try clear hb); (try clear hb2); (try clear hk); (try clear hi); (try clear ho0)) | ((with_reducible refine gate_dst (N := 12) rfl ?_); refine box_event ?hg (N := 12) ?hd (cs := #[.slice none 0 0]) (t := 65) ?hr ?_; (case hd => rfl); (case hg => rfl); (case hr => exact tG); intro gb276 hg w49 hbox hb; replace HO267 := Aside0.mk (Kd.R_below (tR HO267) hb); replace HO270 := Aside0.mk (Kd.R_below (tR HO270) hb); replace HO275 := Aside0.mk (Kd.R_below (tR HO275) hb); have BK276 := Aside0.mk (hbox); have GW276 := gW HB hg; have GE276 := gW HB hg; replace HB := bH HB hb; have NB263_276 := nL BK263 hg; have NB276_263 := nR BK263 hg; replace BK263 := bB BK263 hb; have NB272_276 := nL BK272 hg; have NB276_272 := nR BK272 hg; replace BK272 := bB BK272 hb; clear hb hbox hg; obtain ⟨Ao50, co50, eo50⟩ := Kd.R_slice HO275.out; subst eo50; have hnb51 := NB276_263.out; have hnc51 := NB263_276.out; have hnb52 := NB276_272.out; have hnc52 := NB272_276.out; obtain ⟨hcz53_0, hfz53_0⟩ := bc1 BK276.out) | ((with_reducible refine gate_callee (f := 58) rfl ?_); refine goesL_ (some 41) rfl rfl Try.func58 (by kernel_rfl) rfl #[.agg #[.slice Ao50 t273.length co50], .int .i64 a1, .int .i64 a2, .int .i64 a3] rfl tL ?_; (with_reducible refine (impl_SendNotice.calls k _ _ t273 a1 a2 a3 t277 t280 _ ?side1 ?side2 A13.out).mono ?_); (case side1 => refine (Kd.R_reads' (e := 108) (base := w.heap.size) (ok := fun k_ => ((True ∧ some k_ ≠ (.slice Ao41 t265.length co41 : Value).ownBlock) ∧ some k_ ≠ (.slice Ao44 t268.length co44 : Value).ownBlock)) (n := t273.length) (c := co50) ?_).2.2; exact (by (with_reducible repeat (first | apply Kd.R_alloc | apply Kd.R_drewN | apply Kd.R_drew)); exact (Kd.R_mono (Kd.R_far (p := ⟨gb276, 0, none⟩) (Kd.R_types HO275.out BK276.out (by decide)) (fun _ hk => hk.2) (.slice Ao50 t273.length co50)) (fun _ h_ => h_.1)))); (case side2 => exact (Kd.R_reads' HO275.out).2.1); rintro e w54 ⟨v278, rfl, ho0, hb⟩; refine ⟨_, rfl, ?_⟩; have HO279 := Aside0.mk (Kd.R_lower (Kd.R_new' (Kd.R_new' (Kd.R_new' ho0 (Kd.R_lt (by (with_reducible repeat (first | apply Kd.R_alloc | apply Kd.R_drewN | apply Kd.R_drew)); exact (Kd.R_mono (Kd.R_far (p := ⟨gb276, 0, none⟩) (Kd.R_types HO267.out BK276.out (by decide)) (fun _ hk => hk.2) (.slice Ao50 t273.length co50)) (fun _ h_ => h_.1))))) (Kd.R_lt (by (with_reducible repeat (first | apply Kd.R_alloc | apply Kd.R_drewN | apply Kd.R_drew)); exact (Kd.R_mono (Kd.R_far (p := ⟨gb276, 0, none⟩) (Kd.R_types HO270.out BK276.out (by decide)) (fun _ hk => hk.2) (.slice Ao50 t273.length co50)) (fun _ h_ => h_.1))))) (Kd.R_lt (by (with_reducible repeat (first | apply Kd.R_alloc | apply Kd.R_drewN | apply Kd.R_drew)); exact (Kd.R_mono (Kd.R_far (p := ⟨gb276, 0, none⟩) (Kd.R_types HO275.out BK276.out (by decide)) (fun _ hk => hk.2) (.slice Ao50 t273.length co50)) (fun _ h_ => h_.1))))) (below_size tB)); replace HO267 := Aside0.mk (Kd.R_elder' (by (with_reducible repeat (first | apply Kd.R_alloc | apply Kd.R_drewN | apply Kd.R_drew)); exact (Kd.R_mono (Kd.R_far (p := ⟨gb276, 0, none⟩) (Kd.R_types HO267.out BK276.out (by decide)) (fun _ hk => hk.2) (.slice Ao50 t273.length co50)) (fun _ h_ => h_.1))) (Kd.R_base ho0) hb); replace HO270 := Aside0.mk (Kd.R_elder' (by (with_reducible repeat (first | apply Kd.R_alloc | apply Kd.R_drewN | apply Kd.R_drew)); exact (Kd.R_mono (Kd.R_far (p := ⟨gb276, 0, none⟩) (Kd.R_types HO270.out BK276.out (by decide)) (fun _ hk => hk.2) (.slice Ao50 t273.length co50)) (fun _ h_ => h_.1))) (Kd.R_base ho0) hb); replace HO275 := Aside0.mk (Kd.R_elder' (by (with_reducible repeat (first | apply Kd.R_alloc | apply Kd.R_drewN | apply Kd.R_drew)); exact (Kd.R_mono (Kd.R_far (p := ⟨gb276, 0, none⟩) (Kd.R_types HO275.out BK276.out (by decide)) (fun _ hk => hk.2) (.slice Ao50 t273.length co50)) (fun _ h_ => h_.1))) (Kd.R_base ho0) hb); replace BK263 := Aside0.mk (blk_below (g := gb263) (o := .cells #[.slice A0_0 l0_0.length c0_0] 61 (0, 0)) (kF NB263_276 BK263) hb); replace BK272 := Aside0.mk (blk_below (g := gb272) (o := .cells #[.slice Ao44 t268.length co44] 65 (0, 0)) (kF NB272_276 BK272) hb); replace BK276 := Aside0.mk (blk_below (g := gb276) (o := .cells #[.slice Ao50 t273.length co50] 65 (0, 0)) (by (with_reducible repeat (first | refine blk_drewN ?_ _ | refine blk_drew ?_ | refine blk_alloc ?_ _)); refine blk_put (cs := #[.slice none 0 0]) ?_ 0 _ rfl; (with_reducible repeat (first | refine blk_drewN ?_ _ | refine blk_drew ?_ | refine blk_alloc ?_ _)); exact BK276.out) hb); replace HB := bH HB hb; (try clear hb); (try clear hb2); (try clear hk); (try clear hi); (try clear ho0)) | ((with_reducible refine gate_dst (N := 13) rfl ?_); refine box_event ?hg (N := 13) ?hd (cs := #[.slice none 0 0]) (t := 65) ?hr ?_; (case hd => rfl); (case hg => rfl); (case hr => exact tG); intro gb281 hg w55 hbox hb; replace HO267 := Aside0.mk (Kd.R_below (tR HO267) hb); replace HO270 := Aside0.mk (Kd.R_below (tR HO270) hb); replace HO275 := Aside0.mk (Kd.R_below (tR HO275) hb); replace HO279 := Aside0.mk (Kd.R_below (tR HO279) hb); have BK281 := Aside0.mk (hbox); have GW281 := gW HB hg; have GE281 := gW HB hg; replace HB := bH HB hb; have NB263_281 := nL BK263 hg; have NB281_263 := nR BK263 hg; replace BK263 := bB BK263 hb; have NB272_281 := nL BK272 hg; have NB281_272 := nR BK272 hg; replace BK272 := bB BK272 hb; have NB276_281 := nL BK276 hg; have NB281_276 := nR BK276 hg; replace BK276 := bB BK276 hb; clear hb hbox hg; obtain ⟨Ao56, co56, eo56⟩ := Kd.R_slice HO279.out; subst eo56; have hnb57 := NB281_263.out; have hnc57 := NB263_281.out; have hnb58 := NB281_272.out; have hnc58 := NB272_281.out; have hnb59 := NB281_276.out; have hnc59 := NB276_281.out; obtain ⟨hcz60_0, hfz60_0⟩ := bc1 BK281.out; obtain ⟨hcz61_0, hfz61_0⟩ := bc1 BK272.out) | ((with_reducible refine gate_callee (f := 43) rfl ?_); refine goesL_ (some 46) rfl rfl Try.func43 (by kernel_rfl) rfl #[.agg #[.slice Ao56 t277.length co56], .agg #[.slice Ao44 t268.length co44]] rfl tL ?_; (with_reducible refine (laws_eqMailbox.calls k _ _ t277 _ _ t268 true _ ?side1 ?side2 ?side3 ?side4 A14.out).mono ?_); (case side1 => refine (Kd.R_reads' (e := 108) (base := w.heap.size) (ok := fun k_ => (((True ∧ some k_ ≠ (.slice Ao41 t265.length co41 : Value).ownBlock) ∧ some k_ ≠ (.slice Ao44 t268.length co44 : Value).ownBlock) ∧ some k_ ≠ (.slice Ao50 t273.length co50 : Value).ownBlock)) (n := t277.length) (c := co56) ?_).2.2; exact (by (with_reducible repeat (first | apply Kd.R_alloc | apply Kd.R_drewN | apply Kd.R_drew)); exact (Kd.R_mono (Kd.R_far (p := ⟨gb281, 0, none⟩) (Kd.R_types HO279.out BK281.out (by decide)) (fun _ hk => hk.2) (.slice Ao56 t277.length co56)) (fun _ h_ => h_.1)))); (case side2 => exact (Kd.R_reads' HO279.out).2.1); (case side3 => refine (Kd.R_reads' (e := 108) (base := w.heap.size) (ok := fun k_ => (((True ∧ some k_ ≠ (.slice Ao41 t265.length co41 : Value).ownBlock) ∧ some k_ ≠ (.slice Ao50 t273.length co50 : Value).ownBlock) ∧ some k_ ≠ (.slice Ao56 t277.length co56 : Value).ownBlock)) (n := t268.length) (c := co44) ?_).2.2; exact (by (with_reducible repeat (first | apply Kd.R_alloc | apply Kd.R_drewN | apply Kd.R_drew)); exact (Kd.R_mono (Kd.R_far (p := ⟨gb281, 0, none⟩) (Kd.R_types HO270.out BK281.out (by decide)) (fun _ hk => hk.2) (.slice Ao56 t277.length co56)) (fun _ h_ => h_.1)))); (case side4 => exact (Kd.R_reads' HO270.out).2.1); rintro e w62 ⟨rfl, hb⟩; refine ⟨_, rfl, ?_⟩; replace HO267 := Aside0.mk (Kd.R_below (by (with_reducible repeat (first | apply Kd.R_alloc | apply Kd.R_drewN | apply Kd.R_drew)); exact (Kd.R_mono (Kd.R_far (p := ⟨gb281, 0, none⟩) (Kd.R_types HO267.out BK281.out (by decide)) (fun _ hk => hk.2) (.slice Ao56 t277.length co56)) (fun _ h_ => h_.1))) hb); replace HO270 := Aside0.mk (Kd.R_below (by (with_reducible repeat (first | apply Kd.R_alloc | apply Kd.R_drewN | apply Kd.R_drew)); exact (Kd.R_mono (Kd.R_far (p := ⟨gb281, 0, none⟩) (Kd.R_types HO270.out BK281.out (by decide)) (fun _ hk => hk.2) (.slice Ao56 t277.length co56)) (fun _ h_ => h_.1))) hb); replace HO275 := Aside0.mk (Kd.R_below (by (with_reducible repeat (first | apply Kd.R_alloc | apply Kd.R_drewN | apply Kd.R_drew)); exact (Kd.R_mono (Kd.R_far (p := ⟨gb281, 0, none⟩) (Kd.R_types HO275.out BK281.out (by decide)) (fun _ hk => hk.2) (.slice Ao56 t277.length co56)) (fun _ h_ => h_.1))) hb); replace HO279 := Aside0.mk (Kd.R_below (by (with_reducible repeat (first | apply Kd.R_alloc | apply Kd.R_drewN | apply Kd.R_drew)); exact (Kd.R_mono (Kd.R_far (p := ⟨gb281, 0, none⟩) (Kd.R_types HO279.out BK281.out (by decide)) (fun _ hk => hk.2) (.slice Ao56 t277.length co56)) (fun _ h_ => h_.1))) hb); replace BK263 := Aside0.mk (blk_below (g := gb263) (o := .cells #[.slice A0_0 l0_0.length c0_0] 61 (0, 0)) (kF NB263_281 BK263) hb); replace BK272 := Aside0.mk (blk_below (g := gb272) (o := .cells #[.slice Ao44 t268.length co44] 65 (0, 0)) (kF NB272_281 BK272) hb); replace BK276 := Aside0.mk (blk_below (g := gb276) (o := .cells #[.slice Ao50 t273.length co50] 65 (0, 0)) (kF NB276_281 BK276) hb); replace BK281 := Aside0.mk (blk_below (g := gb281) (o := .cells #[.slice Ao56 t277.length co56] 65 (0, 0)) (by (with_reducible repeat (first | refine blk_drewN ?_ _ | refine blk_drew ?_ | refine blk_alloc ?_ _)); refine blk_put (cs := #[.slice none 0 0]) ?_ 0 _ rfl; (with_reducible repeat (first | refine blk_drewN ?_ _ | refine blk_drew ?_ | refine blk_alloc ?_ _)); exact BK281.out) hb); replace HB := bH HB hb; (try clear hb); (try clear hb2); (try clear hk); (try clear hi)))
       replace HO267 := Aside0.mk (Kd.R_drew HO267.out)
       replace HO270 := Aside0.mk (Kd.R_drew HO270.out)
       replace HO275 := Aside0.mk (Kd.R_drew HO275.out)
       replace HO279 := Aside0.mk (Kd.R_drew HO279.out)
       replace BK263 := Aside0.mk (blk_drew BK263.out)
       replace BK272 := Aside0.mk (blk_drew BK272.out)
       replace BK276 := Aside0.mk (blk_drew BK276.out)
       replace BK281 := Aside0.mk (blk_drew BK281.out)
       replace HB := Aside0.mk (below_drew1 HB.out)
       refine start_ (n := 5) (S := fun w' => w'.cell? ⟨gb276, 0, none⟩ = some (.slice Ao50 t273.length co50) ∧ w'.cell? ⟨gb263, 0, none⟩ = some (.slice A0_0 l0_0.length c0_0)) (ds := []) #[N_,N_,N_,N_,N_] (by kernel_rfl) rfl rfl tH (fun hHeld => ?_)
       generalize w62.drew = w63 at HO267 HO270 HO275 HO279 BK263 BK272 BK276 BK281 HB hHeld ⊢
       refine take_ (i := 0) (N := some 53) (v := ?_) (a' := ?_) #[Y_,N_,N_,N_,N_] rfl rfl (by kernel_rfl) (fun _ _ _ h => h) (Or.inl ⟨by rfl, ?_⟩) hHeld ?_ ?_
       rotate_left
       ·rintro w' ⟨s0, s1⟩
        go_simp
        with_reducible rfl
       rotate_left
       ·simp only [Act.put, List.setIfInBounds_toArray, List.set_cons_zero, List.set_cons_succ, i64_w, i32_w]
        rfl
       refine take_ (i := 1) (N := some 54) (v := ?_) (a' := ?_) #[Y_,Y_,N_,N_,N_] rfl rfl (by kernel_rfl) (fun _ _ _ h => h) (Or.inl ⟨by rfl, ?_⟩) hHeld ?_ ?_
       rotate_left
       ·rintro w' ⟨s0, s1⟩
        go_simp
        with_reducible rfl
       rotate_left
       ·simp only [Act.put, List.setIfInBounds_toArray, List.set_cons_zero, List.set_cons_succ, i64_w, i32_w]
        rfl
       refine one_ (i := 2) (N := some 55) #[Y_,Y_,Y_,N_,N_] rfl rfl (by kernel_rfl) (by decide) (fun K hK => ?_)
       refine goes_ Try.func41 (by kernel_rfl) rfl #[.agg #[.slice A0_0 l0_0.length c0_0]] (by rfl) rfl rfl tL ?_
       with_reducible refine (laws_toMailbox.calls k _ _ l0_0 t283 _ ?side1 ?side2 A17.out).mono ?_
       (case side1 => repeat (first | exact (Kd.C_below HR0_0.out HB.out) | (with_reducible refine Kd.C_alloc ?_ _) | (with_reducible refine Kd.C_drewN ?_ _) | (with_reducible refine Kd.C_drew ?_)))
       (case side2 => exact HC0_0.out)
       rintro e w64 ⟨v284, rfl, ho0, hb⟩
       refine ⟨_, rfl, ?_⟩
       have HO285 := Aside0.mk (Kd.R_lower (Kd.R_new' (Kd.R_new' (Kd.R_new' (Kd.R_new' ho0 (Kd.R_lt (tR HO267))) (Kd.R_lt (tR HO270))) (Kd.R_lt (tR HO275))) (Kd.R_lt (tR HO279))) (below_size tB))
       replace HO267 := Aside0.mk (Kd.R_elder' (tR HO267) (Kd.R_base ho0) hb)
       replace HO270 := Aside0.mk (Kd.R_elder' (tR HO270) (Kd.R_base ho0) hb)
       replace HO275 := Aside0.mk (Kd.R_elder' (tR HO275) (Kd.R_base ho0) hb)
       replace HO279 := Aside0.mk (Kd.R_elder' (tR HO279) (Kd.R_base ho0) hb)
       replace BK263 := bB BK263 hb
       replace BK272 := bB BK272 hb
       replace BK276 := bB BK276 hb
       replace BK281 := bB BK281 hb
       replace HB := bH HB hb
       (try clear hb)
       (try clear hb2)
       (try clear hk)
       (try clear hi)
       (try clear ho0)
       obtain ⟨Ao65, co65, eo65⟩ := Kd.R_slice HO285.out
       (first | subst eo65 | (injection eo65 with f1_ f2_ f3_; have f4_ := f1_.symm; have f5_ := f3_.symm; clear f1_ f2_ f3_; subst f4_; subst f5_))
       refine hK.out _ _ tH (fun hHeld => ?_)
       clear hK K
       refine norm_ (tV : Act.put _ (some 55) _ = _) ?_
       refine one_ (i := 3) (N := some 56) #[Y_,Y_,Y_,Y_,N_] rfl rfl (by kernel_rfl) (by decide) (fun K hK => ?_)
       refine goes_ Try.func43 (by kernel_rfl) rfl #[.agg #[.slice Ao50 t273.length co50], .agg #[.slice Ao65 t283.length co65]] (by rfl) rfl rfl tL ?_
       with_reducible refine (laws_eqMailbox.calls k _ _ t273 _ _ t283 true _ ?side1 ?side2 ?side3 ?side4 A18.out).mono ?_
       (case side1 => repeat (first | exact (Kd.R_reads' HO275.out).2.2 | (with_reducible refine Kd.C_alloc ?_ _) | (with_reducible refine Kd.C_drewN ?_ _) | (with_reducible refine Kd.C_drew ?_)))
       (case side2 => exact (Kd.R_reads' HO275.out).2.1)
       (case side3 => repeat (first | exact (Kd.R_reads' HO285.out).2.2 | (with_reducible refine Kd.C_alloc ?_ _) | (with_reducible refine Kd.C_drewN ?_ _) | (with_reducible refine Kd.C_drew ?_)))
       (case side4 => exact (Kd.R_reads' HO285.out).2.1)
       rintro e w66 ⟨rfl, hb⟩
       refine ⟨_, rfl, ?_⟩
       replace HO267 := Aside0.mk (Kd.R_below (tR HO267) hb)
       replace HO270 := Aside0.mk (Kd.R_below (tR HO270) hb)
       replace HO275 := Aside0.mk (Kd.R_below (tR HO275) hb)
       replace HO279 := Aside0.mk (Kd.R_below (tR HO279) hb)
       replace HO285 := Aside0.mk (Kd.R_below (tR HO285) hb)
       replace BK263 := bB BK263 hb
       replace BK272 := bB BK272 hb
       replace BK276 := bB BK276 hb
       replace BK281 := bB BK281 hb
       replace HB := bH HB hb
       (try clear hb)
       (try clear hb2)
       (try clear hk)
       (try clear hi)
       refine hK.out _ _ tH (fun hHeld => ?_)
       clear hK K
       refine norm_ (tV : Act.put _ (some 56) _ = _) ?_
       refine pure_ (i := 4) (N := some 57) #[Y_,Y_,Y_,Y_,Y_] rfl rfl (by kernel_rfl) (fun _ _ _ h => h) (Or.inl ⟨by rfl, tX⟩) tV ?_
       refine done_ (by kernel_rfl) ?_
       obtain ⟨hcz67_0, hfz67_0⟩ := bc1 BK276.out
       try go_wp2_with (first | ((with_reducible refine gate_callee (f := 45) rfl ?_); refine goesL_ (some 60) rfl rfl Try.func45 (by kernel_rfl) rfl #[.agg #[.slice Ao50 t273.length co50], .int .i64 1] rfl tL ?_; (with_reducible refine (laws_markMailbox.calls k (fun k_ => some k_ = (.slice Ao50 t273.length co50 : Value).ownBlock) (.slice Ao50 t273.length co50) t273 1 t287 t288 w _ ?side1 ?side2 A20.out).mono ?_); (case side1 => exact tB); (case side2 => exact Kd.R_tight rfl HO275.out); rintro e w68 ⟨rfl, hy0, hb, hkp⟩; refine ⟨_, rfl, ?_⟩; replace BK263 := Aside0.mk (blk_kept (tK BK263) hkp (fun hs_ => (fun e_ => (Kd.R_ne HO275.out BK263.out (by decide)) e_) hs_)); replace HO267 := Aside0.mk (Kd.R_mono (ok' := fun k_ => some k_ ≠ (.slice Ao44 t268.length co44 : Value).ownBlock ∧ some k_ ≠ (.slice Ao50 t273.length co50 : Value).ownBlock ∧ some k_ ≠ (.slice Ao56 t277.length co56 : Value).ownBlock ∧ some k_ ≠ (.slice Ao65 t283.length co65 : Value).ownBlock) (Kd.R_keptB (HO267.out) hkp tN6) tP6); replace HO270 := Aside0.mk (Kd.R_mono (ok' := fun k_ => some k_ ≠ (.slice Ao41 t265.length co41 : Value).ownBlock ∧ some k_ ≠ (.slice Ao50 t273.length co50 : Value).ownBlock ∧ some k_ ≠ (.slice Ao56 t277.length co56 : Value).ownBlock ∧ some k_ ≠ (.slice Ao65 t283.length co65 : Value).ownBlock) (Kd.R_keptB (HO270.out) hkp tN6) tP6); replace BK272 := Aside0.mk (blk_kept (tK BK272) hkp (fun hs_ => (fun e_ => (Kd.R_ne HO275.out BK272.out (by decide)) e_) hs_)); replace BK276 := Aside0.mk (blk_kept (tK BK276) hkp (fun hs_ => (fun e_ => (Kd.R_ne HO275.out BK276.out (by decide)) e_) hs_)); replace HO279 := Aside0.mk (Kd.R_mono (ok' := fun k_ => some k_ ≠ (.slice Ao41 t265.length co41 : Value).ownBlock ∧ some k_ ≠ (.slice Ao44 t268.length co44 : Value).ownBlock ∧ some k_ ≠ (.slice Ao50 t273.length co50 : Value).ownBlock ∧ some k_ ≠ (.slice Ao65 t283.length co65 : Value).ownBlock) (Kd.R_keptB (HO279.out) hkp tN6) tP6); replace BK281 := Aside0.mk (blk_kept (tK BK281) hkp (fun hs_ => (fun e_ => (Kd.R_ne HO275.out BK281.out (by decide)) e_) hs_)); replace HO275 := Aside0.mk (Kd.R_reok rfl hy0 (fun k_ e_ => HO275.out.1 k_ e_)); replace HO285 := Aside0.mk (Kd.R_mono (ok' := fun k_ => some k_ ≠ (.slice Ao41 t265.length co41 : Value).ownBlock ∧ some k_ ≠ (.slice Ao44 t268.length co44 : Value).ownBlock ∧ some k_ ≠ (.slice Ao50 t273.length co50 : Value).ownBlock ∧ some k_ ≠ (.slice Ao56 t277.length co56 : Value).ownBlock) (Kd.R_keptB (HO285.out) hkp tN6) tP6); replace HB := Aside0.mk (hb); (try clear hb); (try clear hkp); (try clear hy0); obtain ⟨hcz69_0, hfz69_0⟩ := bc1 BK281.out; obtain ⟨hcz70_0, hfz70_0⟩ := bc1 BK272.out) | (go_at_call 43; (with_reducible refine (laws_eqMailbox.calls k _ _ t277 _ _ t268 true _ ?side1 ?side2 ?side3 ?side4 A22.out).mono ?_); (case side1 => repeat (first | exact (Kd.R_reads' HO279.out).2.2 | (with_reducible refine Kd.C_alloc ?_ _) | (with_reducible refine Kd.C_drewN ?_ _) | (with_reducible refine Kd.C_drew ?_))); (case side2 => exact (Kd.R_reads' HO279.out).2.1); (case side3 => repeat (first | exact (Kd.R_reads' HO270.out).2.2 | (with_reducible refine Kd.C_alloc ?_ _) | (with_reducible refine Kd.C_drewN ?_ _) | (with_reducible refine Kd.C_drew ?_))); (case side4 => exact (Kd.R_reads' HO270.out).2.1); rintro e w71 ⟨rfl, hb⟩; replace HO267 := Aside0.mk (Kd.R_below (tR HO267) hb); replace HO270 := Aside0.mk (Kd.R_below (tR HO270) hb); replace HO275 := Aside0.mk (Kd.R_below (tR HO275) hb); replace HO279 := Aside0.mk (Kd.R_below (tR HO279) hb); replace HO285 := Aside0.mk (Kd.R_below (tR HO285) hb); replace BK263 := bB BK263 hb; replace BK272 := bB BK272 hb; replace BK276 := bB BK276 hb; replace BK281 := bB BK281 hb; replace HB := bH HB hb; (try clear hb); (try clear hb2); (try clear hk); (try clear hi); obtain ⟨hcz72_0, hfz72_0⟩ := bc1 BK281.out) | ((with_reducible refine gate_callee (f := 45) rfl ?_); refine goesL_ (some 76) rfl rfl Try.func45 (by kernel_rfl) rfl #[.agg #[.slice Ao56 t277.length co56], .int .i64 1] rfl tL ?_; (with_reducible refine (laws_markMailbox.calls k (fun k_ => some k_ = (.slice Ao56 t277.length co56 : Value).ownBlock) (.slice Ao56 t277.length co56) t277 1 t290 t291 w _ ?side1 ?side2 A24.out).mono ?_); (case side1 => exact tB); (case side2 => exact Kd.R_tight rfl HO279.out); rintro e w73 ⟨rfl, hy0, hb, hkp⟩; refine ⟨_, rfl, ?_⟩; replace BK263 := Aside0.mk (blk_kept (tK BK263) hkp (fun hs_ => (fun e_ => (Kd.R_ne HO279.out BK263.out (by decide)) e_) hs_)); replace HO267 := Aside0.mk (Kd.R_mono (ok' := fun k_ => some k_ ≠ (.slice Ao44 t268.length co44 : Value).ownBlock ∧ some k_ ≠ (.slice Ao50 t273.length co50 : Value).ownBlock ∧ some k_ ≠ (.slice Ao56 t277.length co56 : Value).ownBlock ∧ some k_ ≠ (.slice Ao65 t283.length co65 : Value).ownBlock) (Kd.R_keptB (HO267.out) hkp tN6) tP6); replace HO270 := Aside0.mk (Kd.R_mono (ok' := fun k_ => some k_ ≠ (.slice Ao41 t265.length co41 : Value).ownBlock ∧ some k_ ≠ (.slice Ao50 t273.length co50 : Value).ownBlock ∧ some k_ ≠ (.slice Ao56 t277.length co56 : Value).ownBlock ∧ some k_ ≠ (.slice Ao65 t283.length co65 : Value).ownBlock) (Kd.R_keptB (HO270.out) hkp tN6) tP6); replace BK272 := Aside0.mk (blk_kept (tK BK272) hkp (fun hs_ => (fun e_ => (Kd.R_ne HO279.out BK272.out (by decide)) e_) hs_)); replace HO275 := Aside0.mk (Kd.R_mono (ok' := fun k_ => some k_ ≠ (.slice Ao41 t265.length co41 : Value).ownBlock ∧ some k_ ≠ (.slice Ao44 t268.length co44 : Value).ownBlock ∧ some k_ ≠ (.slice Ao56 t277.length co56 : Value).ownBlock ∧ some k_ ≠ (.slice Ao65 t283.length co65 : Value).ownBlock) (Kd.R_keptB (HO275.out) hkp tN6) tP6); replace BK276 := Aside0.mk (blk_kept (tK BK276) hkp (fun hs_ => (fun e_ => (Kd.R_ne HO279.out BK276.out (by decide)) e_) hs_)); replace BK281 := Aside0.mk (blk_kept (tK BK281) hkp (fun hs_ => (fun e_ => (Kd.R_ne HO279.out BK281.out (by decide)) e_) hs_)); replace HO279 := Aside0.mk (Kd.R_reok rfl hy0 (fun k_ e_ => HO279.out.1 k_ e_)); replace HO285 := Aside0.mk (Kd.R_mono (ok' := fun k_ => some k_ ≠ (.slice Ao41 t265.length co41 : Value).ownBlock ∧ some k_ ≠ (.slice Ao44 t268.length co44 : Value).ownBlock ∧ some k_ ≠ (.slice Ao50 t273.length co50 : Value).ownBlock ∧ some k_ ≠ (.slice Ao56 t277.length co56 : Value).ownBlock) (Kd.R_keptB (HO285.out) hkp tN6) tP6); replace HB := Aside0.mk (hb); (try clear hb); (try clear hkp); (try clear hy0); obtain ⟨hcz74_0, hfz74_0⟩ := bc1 BK281.out) | ((with_reducible refine gate_callee (f := 47) rfl ?_); refine goesL_ (some 79) rfl rfl Try.func47 (by kernel_rfl) rfl #[.agg #[.slice Ao56 t291.length co56], .int .i64 1] rfl (by (try simp only [List.map_toArray, List.map_cons, List.map_nil]); first | done | (rw [show t291.length = t277.length from (Kd.R_reads' HO279.out).1.symm] <;> rfl) | rfl | (simp only [List.length_drop, List.length_take]; rfl)) ?_; (with_reducible refine (laws_heldMailbox.calls k _ _ t291 1 t292 _ ?side1 ?side2 A25.out).mono ?_); (case side1 => repeat (first | exact (Kd.R_reads' HO279.out).2.2 | (with_reducible refine Kd.C_alloc ?_ _) | (with_reducible refine Kd.C_drewN ?_ _) | (with_reducible refine Kd.C_drew ?_))); (case side2 => rw [show t291.length = t277.length from (Kd.R_reads' HO279.out).1.symm]; exact (Kd.R_reads' HO279.out).2.1); rintro e w75 ⟨rfl, hb⟩; refine ⟨_, rfl, ?_⟩; replace HO267 := Aside0.mk (Kd.R_below (tR HO267) hb); replace HO270 := Aside0.mk (Kd.R_below (tR HO270) hb); replace HO275 := Aside0.mk (Kd.R_below (tR HO275) hb); replace HO279 := Aside0.mk (Kd.R_below (tR HO279) hb); replace HO285 := Aside0.mk (Kd.R_below (tR HO285) hb); replace BK263 := bB BK263 hb; replace BK272 := bB BK272 hb; replace BK276 := bB BK276 hb; replace BK281 := bB BK281 hb; replace HB := bH HB hb; (try clear hb); (try clear hb2); (try clear hk); (try clear hi); obtain ⟨hcz76_0, hfz76_0⟩ := bc1 BK263.out) | ((with_reducible refine gate_callee (f := 41) rfl ?_); refine goesL_ (some 87) rfl rfl Try.func41 (by kernel_rfl) rfl #[.agg #[.slice A0_0 l0_0.length c0_0]] rfl tL ?_; (with_reducible refine (laws_toMailbox.calls k _ _ l0_0 t293 _ ?side1 ?side2 A28.out).mono ?_); (case side1 => repeat (first | exact (Kd.C_below HR0_0.out HB.out) | (with_reducible refine Kd.C_alloc ?_ _) | (with_reducible refine Kd.C_drewN ?_ _) | (with_reducible refine Kd.C_drew ?_))); (case side2 => exact HC0_0.out); rintro e w77 ⟨v294, rfl, ho0, hb⟩; refine ⟨_, rfl, ?_⟩; have HO295 := Aside0.mk (Kd.R_lower (Kd.R_new' (Kd.R_new' (Kd.R_new' (Kd.R_new' (Kd.R_new' ho0 (Kd.R_lt (tR HO267))) (Kd.R_lt (tR HO270))) (Kd.R_lt (tR HO275))) (Kd.R_lt (tR HO279))) (Kd.R_lt (tR HO285))) (below_size tB)); replace HO267 := Aside0.mk (Kd.R_elder' (tR HO267) (Kd.R_base ho0) hb); replace HO270 := Aside0.mk (Kd.R_elder' (tR HO270) (Kd.R_base ho0) hb); replace HO275 := Aside0.mk (Kd.R_elder' (tR HO275) (Kd.R_base ho0) hb); replace HO279 := Aside0.mk (Kd.R_elder' (tR HO279) (Kd.R_base ho0) hb); replace HO285 := Aside0.mk (Kd.R_elder' (tR HO285) (Kd.R_base ho0) hb); replace BK263 := bB BK263 hb; replace BK272 := bB BK272 hb; replace BK276 := bB BK276 hb; replace BK281 := bB BK281 hb; replace HB := bH HB hb; (try clear hb); (try clear hb2); (try clear hk); (try clear hi); (try clear ho0); obtain ⟨Ao78, co78, eo78⟩ := Kd.R_slice HO295.out; subst eo78) | ((with_reducible refine gate_callee (f := 58) rfl ?_); refine goesL_ (some 91) rfl rfl Try.func58 (by kernel_rfl) rfl #[.agg #[.slice Ao78 t293.length co78], .int .i64 a1, .int .i64 a2, .int .i64 a3] rfl tL ?_; (with_reducible refine (impl_SendNotice.calls k _ _ t293 a1 a2 a3 t296 t299 _ ?side1 ?side2 A29.out).mono ?_); (case side1 => repeat (first | exact (Kd.R_reads' HO295.out).2.2 | (with_reducible refine Kd.C_alloc ?_ _) | (with_reducible refine Kd.C_drewN ?_ _) | (with_reducible refine Kd.C_drew ?_))); (case side2 => exact (Kd.R_reads' HO295.out).2.1); rintro e w79 ⟨v297, rfl, ho0, hb⟩; refine ⟨_, rfl, ?_⟩; have HO298 := Aside0.mk (Kd.R_lower (Kd.R_new' (Kd.R_new' (Kd.R_new' (Kd.R_new' (Kd.R_new' (Kd.R_new' ho0 (Kd.R_lt (tR HO267))) (Kd.R_lt (tR HO270))) (Kd.R_lt (tR HO275))) (Kd.R_lt (tR HO279))) (Kd.R_lt (tR HO285))) (Kd.R_lt (tR HO295))) (below_size tB)); replace HO267 := Aside0.mk (Kd.R_elder' (tR HO267) (Kd.R_base ho0) hb); replace HO270 := Aside0.mk (Kd.R_elder' (tR HO270) (Kd.R_base ho0) hb); replace HO275 := Aside0.mk (Kd.R_elder' (tR HO275) (Kd.R_base ho0) hb); replace HO279 := Aside0.mk (Kd.R_elder' (tR HO279) (Kd.R_base ho0) hb); replace HO285 := Aside0.mk (Kd.R_elder' (tR HO285) (Kd.R_base ho0) hb); replace HO295 := Aside0.mk (Kd.R_elder' (tR HO295) (Kd.R_base ho0) hb); replace BK263 := bB BK263 hb; replace BK272 := bB BK272 hb; replace BK276 := bB BK276 hb; replace BK281 := bB BK281 hb; replace HB := bH HB hb; (try clear hb); (try clear hb2); (try clear hk); (try clear hi); (try clear ho0)) | ((with_reducible refine gate_dst (N := 18) rfl ?_); refine box_event ?hg (N := 18) ?hd (cs := #[.slice none 0 0]) (t := 65) ?hr ?_; (case hd => rfl); (case hg => rfl); (case hr => exact tG); intro gb300 hg w80 hbox hb; replace HO267 := Aside0.mk (Kd.R_below (tR HO267) hb); replace HO270 := Aside0.mk (Kd.R_below (tR HO270) hb); replace HO275 := Aside0.mk (Kd.R_below (tR HO275) hb); replace HO279 := Aside0.mk (Kd.R_below (tR HO279) hb); replace HO285 := Aside0.mk (Kd.R_below (tR HO285) hb); replace HO295 := Aside0.mk (Kd.R_below (tR HO295) hb); replace HO298 := Aside0.mk (Kd.R_below (tR HO298) hb); have BK300 := Aside0.mk (hbox); have GW300 := gW HB hg; have GE300 := gW HB hg; replace HB := bH HB hb; have NB263_300 := nL BK263 hg; have NB300_263 := nR BK263 hg; replace BK263 := bB BK263 hb; have NB272_300 := nL BK272 hg; have NB300_272 := nR BK272 hg; replace BK272 := bB BK272 hb; have NB276_300 := nL BK276 hg; have NB300_276 := nR BK276 hg; replace BK276 := bB BK276 hb; have NB281_300 := nL BK281 hg; have NB300_281 := nR BK281 hg; replace BK281 := bB BK281 hb; clear hb hbox hg; obtain ⟨Ao81, co81, eo81⟩ := Kd.R_slice HO298.out; subst eo81; have hnb82 := NB300_263.out; have hnc82 := NB263_300.out; have hnb83 := NB300_272.out; have hnc83 := NB272_300.out; have hnb84 := NB300_276.out; have hnc84 := NB276_300.out; have hnb85 := NB300_281.out; have hnc85 := NB281_300.out; obtain ⟨hcz86_0, hfz86_0⟩ := bc1 BK300.out; obtain ⟨hcz87_0, hfz87_0⟩ := bc1 BK272.out) | ((with_reducible refine gate_callee (f := 43) rfl ?_); refine goesL_ (some 96) rfl rfl Try.func43 (by kernel_rfl) rfl #[.agg #[.slice Ao81 t296.length co81], .agg #[.slice Ao44 t268.length co44]] rfl tL ?_; (with_reducible refine (laws_eqMailbox.calls k _ _ t296 _ _ t268 true _ ?side1 ?side2 ?side3 ?side4 A30.out).mono ?_); (case side1 => refine (Kd.R_reads' (e := 108) (base := w.heap.size) (ok := fun k_ => ((((((True ∧ some k_ ≠ (.slice Ao41 t265.length co41 : Value).ownBlock) ∧ some k_ ≠ (.slice Ao44 t268.length co44 : Value).ownBlock) ∧ some k_ ≠ (.slice Ao50 t273.length co50 : Value).ownBlock) ∧ some k_ ≠ (.slice Ao56 t277.length co56 : Value).ownBlock) ∧ some k_ ≠ (.slice Ao65 t283.length co65 : Value).ownBlock) ∧ some k_ ≠ (.slice Ao78 t293.length co78 : Value).ownBlock)) (n := t296.length) (c := co81) ?_).2.2; exact (by (with_reducible repeat (first | apply Kd.R_alloc | apply Kd.R_drewN | apply Kd.R_drew)); exact (Kd.R_mono (Kd.R_far (p := ⟨gb300, 0, none⟩) (Kd.R_types HO298.out BK300.out (by decide)) (fun _ hk => hk.2) (.slice Ao81 t296.length co81)) (fun _ h_ => h_.1)))); (case side2 => exact (Kd.R_reads' HO298.out).2.1); (case side3 => refine (Kd.R_reads' (e := 108) (base := w.heap.size) (ok := fun k_ => (((some k_ ≠ (.slice Ao41 t265.length co41 : Value).ownBlock ∧ (some k_ ≠ (.slice Ao50 t273.length co50 : Value).ownBlock ∧ (some k_ ≠ (.slice Ao56 t277.length co56 : Value).ownBlock ∧ some k_ ≠ (.slice Ao65 t283.length co65 : Value).ownBlock))) ∧ some k_ ≠ (.slice Ao78 t293.length co78 : Value).ownBlock) ∧ some k_ ≠ (.slice Ao81 t296.length co81 : Value).ownBlock)) (n := t268.length) (c := co44) ?_).2.2; exact (by (with_reducible repeat (first | apply Kd.R_alloc | apply Kd.R_drewN | apply Kd.R_drew)); exact (Kd.R_mono (Kd.R_far (p := ⟨gb300, 0, none⟩) (Kd.R_types HO270.out BK300.out (by decide)) (fun _ hk => hk.2) (.slice Ao81 t296.length co81)) (fun _ h_ => h_.1)))); (case side4 => exact (Kd.R_reads' HO270.out).2.1); rintro e w88 ⟨rfl, hb⟩; refine ⟨_, rfl, ?_⟩; replace HO267 := Aside0.mk (Kd.R_below (by (with_reducible repeat (first | apply Kd.R_alloc | apply Kd.R_drewN | apply Kd.R_drew)); exact (Kd.R_mono (Kd.R_far (p := ⟨gb300, 0, none⟩) (Kd.R_types HO267.out BK300.out (by decide)) (fun _ hk => hk.2) (.slice Ao81 t296.length co81)) (fun _ h_ => h_.1))) hb); replace HO270 := Aside0.mk (Kd.R_below (by (with_reducible repeat (first | apply Kd.R_alloc | apply Kd.R_drewN | apply Kd.R_drew)); exact (Kd.R_mono (Kd.R_far (p := ⟨gb300, 0, none⟩) (Kd.R_types HO270.out BK300.out (by decide)) (fun _ hk => hk.2) (.slice Ao81 t296.length co81)) (fun _ h_ => h_.1))) hb); replace HO275 := Aside0.mk (Kd.R_below (by (with_reducible repeat (first | apply Kd.R_alloc | apply Kd.R_drewN | apply Kd.R_drew)); exact (Kd.R_mono (Kd.R_far (p := ⟨gb300, 0, none⟩) (Kd.R_types HO275.out BK300.out (by decide)) (fun _ hk => hk.2) (.slice Ao81 t296.length co81)) (fun _ h_ => h_.1))) hb); replace HO279 := Aside0.mk (Kd.R_below (by (with_reducible repeat (first | apply Kd.R_alloc | apply Kd.R_drewN | apply Kd.R_drew)); exact (Kd.R_mono (Kd.R_far (p := ⟨gb300, 0, none⟩) (Kd.R_types HO279.out BK300.out (by decide)) (fun _ hk => hk.2) (.slice Ao81 t296.length co81)) (fun _ h_ => h_.1))) hb); replace HO285 := Aside0.mk (Kd.R_below (by (with_reducible repeat (first | apply Kd.R_alloc | apply Kd.R_drewN | apply Kd.R_drew)); exact (Kd.R_mono (Kd.R_far (p := ⟨gb300, 0, none⟩) (Kd.R_types HO285.out BK300.out (by decide)) (fun _ hk => hk.2) (.slice Ao81 t296.length co81)) (fun _ h_ => h_.1))) hb); replace HO295 := Aside0.mk (Kd.R_below (by (with_reducible repeat (first | apply Kd.R_alloc | apply Kd.R_drewN | apply Kd.R_drew)); exact (Kd.R_mono (Kd.R_far (p := ⟨gb300, 0, none⟩) (Kd.R_types HO295.out BK300.out (by decide)) (fun _ hk => hk.2) (.slice Ao81 t296.length co81)) (fun _ h_ => h_.1))) hb); replace HO298 := Aside0.mk (Kd.R_below (by (with_reducible repeat (first | apply Kd.R_alloc | apply Kd.R_drewN | apply Kd.R_drew)); exact (Kd.R_mono (Kd.R_far (p := ⟨gb300, 0, none⟩) (Kd.R_types HO298.out BK300.out (by decide)) (fun _ hk => hk.2) (.slice Ao81 t296.length co81)) (fun _ h_ => h_.1))) hb); replace BK263 := Aside0.mk (blk_below (g := gb263) (o := .cells #[.slice A0_0 l0_0.length c0_0] 61 (0, 0)) (kF NB263_300 BK263) hb); replace BK272 := Aside0.mk (blk_below (g := gb272) (o := .cells #[.slice Ao44 t268.length co44] 65 (0, 0)) (kF NB272_300 BK272) hb); replace BK276 := Aside0.mk (blk_below (g := gb276) (o := .cells #[.slice Ao50 t273.length co50] 65 (0, 0)) (kF NB276_300 BK276) hb); replace BK281 := Aside0.mk (blk_below (g := gb281) (o := .cells #[.slice Ao56 t277.length co56] 65 (0, 0)) (kF NB281_300 BK281) hb); replace BK300 := Aside0.mk (blk_below (g := gb300) (o := .cells #[.slice Ao81 t296.length co81] 65 (0, 0)) (by (with_reducible repeat (first | refine blk_drewN ?_ _ | refine blk_drew ?_ | refine blk_alloc ?_ _)); refine blk_put (cs := #[.slice none 0 0]) ?_ 0 _ rfl; (with_reducible repeat (first | refine blk_drewN ?_ _ | refine blk_drew ?_ | refine blk_alloc ?_ _)); exact BK300.out) hb); replace HB := bH HB hb; (try clear hb); (try clear hb2); (try clear hk); (try clear hi); obtain ⟨hcz89_0, hfz89_0⟩ := bc1 BK281.out) | ((with_reducible refine gate_callee (f := 47) rfl ?_); refine goesL_ (some 105) rfl rfl Try.func47 (by kernel_rfl) rfl #[.agg #[.slice Ao56 t291.length co56], .int .i64 1] rfl (by (try simp only [List.map_toArray, List.map_cons, List.map_nil]); first | done | (rw [show t291.length = t277.length from (Kd.R_reads' HO279.out).1.symm] <;> rfl) | rfl | (simp only [List.length_drop, List.length_take]; rfl)) ?_; (with_reducible refine (laws_heldMailbox.calls k _ _ t291 1 t302 _ ?side1 ?side2 A33.out).mono ?_); (case side1 => repeat (first | exact (Kd.R_reads' HO279.out).2.2 | (with_reducible refine Kd.C_alloc ?_ _) | (with_reducible refine Kd.C_drewN ?_ _) | (with_reducible refine Kd.C_drew ?_))); (case side2 => rw [show t291.length = t277.length from (Kd.R_reads' HO279.out).1.symm]; exact (Kd.R_reads' HO279.out).2.1); rintro e w90 ⟨rfl, hb⟩; refine ⟨_, rfl, ?_⟩; replace HO267 := Aside0.mk (Kd.R_below (tR HO267) hb); replace HO270 := Aside0.mk (Kd.R_below (tR HO270) hb); replace HO275 := Aside0.mk (Kd.R_below (tR HO275) hb); replace HO279 := Aside0.mk (Kd.R_below (tR HO279) hb); replace HO285 := Aside0.mk (Kd.R_below (tR HO285) hb); replace HO295 := Aside0.mk (Kd.R_below (tR HO295) hb); replace HO298 := Aside0.mk (Kd.R_below (tR HO298) hb); replace BK263 := bB BK263 hb; replace BK272 := bB BK272 hb; replace BK276 := bB BK276 hb; replace BK281 := bB BK281 hb; replace BK300 := bB BK300 hb; replace HB := bH HB hb; (try clear hb); (try clear hb2); (try clear hk); (try clear hi)))
       go_ret
       exact ⟨tE, tB⟩
      rw [if_neg c35] at H
      have c35b0 : (t302 == t290) = false := beq_eq_false_iff_ne.mpr c35
      have c35b1 : (t302 != t290) = true := bne_iff_ne.mpr c35
      exact absurd ((Option.some.inj H).trans hT_) (by decide)
     replace c31 := Bool.eq_false_iff.mpr c31
     subst c31
     have H1 : (some false) = some r := by rw [if_neg (show ¬ (false = true) by decide)] at H; exact H
     clear H
     have H := H1
     clear H1
     exact absurd ((Option.some.inj H).trans hT_) (by decide)
    rw [if_neg c27] at H
    have c27b0 : (t292 == t290) = false := beq_eq_false_iff_ne.mpr c27
    have c27b1 : (t292 != t290) = true := bne_iff_ne.mpr c27
    exact absurd ((Option.some.inj H).trans hT_) (by decide)
   replace c23 := Bool.eq_false_iff.mpr c23
   subst c23
   have H1 : (some false) = some r := by rw [if_neg (show ¬ (false = true) by decide)] at H; exact H
   clear H
   have H := H1
   clear H1
   exact absurd ((Option.some.inj H).trans hT_) (by decide)
  replace c19 := Bool.eq_false_iff.mpr c19
  subst c19
  have H1 : (some false) = some r := by rw [if_neg (show ¬ (false = true) by decide)] at H; exact H
  clear H
  have H := H1
  clear H1
  exact absurd ((Option.some.inj H).trans hT_) (by decide)
 replace c15 := Bool.eq_false_iff.mpr c15
 subst c15
 have H1 : (some false) = some r := by rw [if_neg (show ¬ (false = true) by decide)] at H; exact H
 clear H
 have H := H1
 clear H1
 exact absurd ((Option.some.inj H).trans hT_) (by decide)

end Go.Proofs.Ytanoaneoanpkkaa.ZFnExactSendNotice
