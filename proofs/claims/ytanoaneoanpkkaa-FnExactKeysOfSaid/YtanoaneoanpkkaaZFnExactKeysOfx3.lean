/- The machine side: for each Go function a Lean function and the contract that the Go code answers as it does; printed by program (wip/tmpl/pprint.sh). -/
import Derived.Test.YtanoaneoanpkkaaZFnExactKeysOfx0
import Derived.Test.YtanoaneoanpkkaaZFnExactKeysOfx1
import Derived.Test.YtanoaneoanpkkaaZFnExactKeysOfx2
namespace Go.Proofs.Ytanoaneoanpkkaa.ZFnExactKeysOf
open Go.RowKit Go.Proofs.YtanoaneoanpkkaaW.PrintWords Go.Proofs.YtanoaneoanpkkaaW.PrintLast Go.Proofs.YtanoaneoanpkkaaW.PrintMore
attribute [local go_sem] max2_int min2_int max_two min_two max_three min_three max_four min_four   -- for this text's walks alone
set_option linter.unusedVariables false
set_option linter.unusedSimpArgs false

/-! ### laws_FnExactKeysOf: function 6 -/
def laws_FnExactKeysOf.f (k : Nat) (a0_0 : Int) (a0_1 : Int) (l0_2 : List (S150)) : Option (Bool) := (laws_szAccount.f a0_0 a0_1 l0_2 1048576).bind fun t159 => (if t159 < 0 then (some true) else ((laws_toAccount.f k a0_0 a0_1 l0_2).bind fun bt160 => ((spec_KeysOf.f k bt160.1 bt160.2.1 bt160.2.2).bind fun t165 => ((laws_toAccount.f k a0_0 a0_1 l0_2).bind fun bt168 => ((impl_KeysOf.f k bt168.1 bt168.2.1 bt168.2.2).bind fun t174 => ((laws_eqIntS.f k t174 t165).bind fun t177 => (if t177 = true then ((laws_toAccount.f k a0_0 a0_1 l0_2).bind fun bt178 => ((laws_eqAccount.f k bt168.1 bt168.2.1 bt168.2.2 bt178.1 bt178.2.1 bt178.2.2).bind fun t183 => (if t183 = true then ((laws_markAccount.f k bt168.1 bt168.2.1 bt168.2.2 1).bind fun bt184 => (if bt184.1 < 0 then (some false) else ((laws_eqIntS.f k t174 t165).bind fun t186 => (if t186 = true then ((laws_markIntS.f k t174 1).bind fun bt187 => ((laws_heldIntS.f k bt187.2 1).bind fun t189 => (if t189 < 0 then (some false) else (if t189 = bt187.1 then ((laws_toAccount.f k a0_0 a0_1 l0_2).bind fun bt190 => ((impl_KeysOf.f k bt190.1 bt190.2.1 bt190.2.2).bind fun t195 => ((laws_eqIntS.f k t195 t165).bind fun t198 => (if t198 = true then ((laws_heldIntS.f k bt187.2 1).bind fun t199 => (if t199 < 0 then (some false) else (if t199 = bt187.1 then (some true) else (some false)))) else (some false))))) else (some false))))) else (some false))))) else (some false)))) else (some false))))))))
theorem laws_FnExactKeysOf.mono : ∀ a0 a1 a2 k, LeO (laws_FnExactKeysOf.f k a0 a1 a2) (laws_FnExactKeysOf.f (k + 1) a0 a1 a2) := by
  intro a0 a1 a2 k
  unfold laws_FnExactKeysOf.f
  repeat' first
      | (with_reducible exact impl_KeysOf.mono _ _ _ _)
      | (with_reducible exact laws_eqAccount.mono _ _ _ _ _ _ _)
      | (with_reducible exact laws_eqIntS.mono _ _ _)
      | (with_reducible exact laws_heldIntS.mono _ _ _)
      | (with_reducible exact laws_markAccount.mono _ _ _ _ _)
      | (with_reducible exact laws_markIntS.mono _ _ _)
      | (with_reducible exact laws_toAccount.mono _ _ _ _)
      | (with_reducible exact spec_KeysOf.mono _ _ _ _)
      | (with_reducible exact LeO.refl _)
      | (with_reducible exact LeO.none _)
      | (with_reducible refine LeO.ite ?_ ?_)
      | (with_reducible refine LeO.bind ?_ (fun _ => ?_))
      | exact impl_KeysOf.mono _ _ _ _
      | exact laws_eqAccount.mono _ _ _ _ _ _ _
      | exact laws_eqIntS.mono _ _ _
      | exact laws_heldIntS.mono _ _ _
      | exact laws_markAccount.mono _ _ _ _ _
      | exact laws_markIntS.mono _ _ _
      | exact laws_toAccount.mono _ _ _ _
      | exact spec_KeysOf.mono _ _ _ _
      | exact LeO.none _
      | refine LeO.ite ?_ ?_
      | refine LeO.bind ?_ (fun _ => ?_)
set_option maxHeartbeats 8000000 in
set_option maxRecDepth 100000 in
theorem laws_FnExactKeysOf.calls (k : Nat) (a0_0 : Int) (a0_1 : Int) (A0_2 : Option Addr) (c0_2 : Nat) (l0_2 : List (S150)) (r : Bool) (w : World) (hr0_2 : Kd.C k150 w A0_2 l0_2.length l0_2) (hc0_2 : l0_2.length ≤ c0_2) (hT_ : r = true) (h : laws_FnExactKeysOf.f k a0_0 a0_1 l0_2 = some r) :
    Calls Try.prog 6 #[.agg #[.int .i64 a0_0, .int .i64 a0_1, .slice A0_2 l0_2.length c0_2]] w fun e w' => e = .returned (.bool r) ∧ Below w.heap.size w w' := by
  have hu48 := Try.underlying48
  have hu53 := Try.underlying53
  have HR0_2 := Aside0.mk hr0_2
  have HC0_2 := Aside0.mk hc0_2
  clear hr0_2 hc0_2
  have HB := Aside0.mk (Below.refl w.heap.size w)
  have H : ((laws_szAccount.f a0_0 a0_1 l0_2 1048576).bind fun t159 => (if t159 < 0 then (some true) else ((laws_toAccount.f k a0_0 a0_1 l0_2).bind fun bt160 => ((spec_KeysOf.f k bt160.1 bt160.2.1 bt160.2.2).bind fun t165 => ((laws_toAccount.f k a0_0 a0_1 l0_2).bind fun bt168 => ((impl_KeysOf.f k bt168.1 bt168.2.1 bt168.2.2).bind fun t174 => ((laws_eqIntS.f k t174 t165).bind fun t177 => (if t177 = true then ((laws_toAccount.f k a0_0 a0_1 l0_2).bind fun bt178 => ((laws_eqAccount.f k bt168.1 bt168.2.1 bt168.2.2 bt178.1 bt178.2.1 bt178.2.2).bind fun t183 => (if t183 = true then ((laws_markAccount.f k bt168.1 bt168.2.1 bt168.2.2 1).bind fun bt184 => (if bt184.1 < 0 then (some false) else ((laws_eqIntS.f k t174 t165).bind fun t186 => (if t186 = true then ((laws_markIntS.f k t174 1).bind fun bt187 => ((laws_heldIntS.f k bt187.2 1).bind fun t189 => (if t189 < 0 then (some false) else (if t189 = bt187.1 then ((laws_toAccount.f k a0_0 a0_1 l0_2).bind fun bt190 => ((impl_KeysOf.f k bt190.1 bt190.2.1 bt190.2.2).bind fun t195 => ((laws_eqIntS.f k t195 t165).bind fun t198 => (if t198 = true then ((laws_heldIntS.f k bt187.2 1).bind fun t199 => (if t199 < 0 then (some false) else (if t199 = bt187.1 then (some true) else (some false)))) else (some false))))) else (some false))))) else (some false))))) else (some false)))) else (some false))))))))) = some r := h
  clear h
  replace H := Option.bind_eq_some_iff.mp H
  obtain ⟨t159, A20, H⟩ := H
  replace H : (if t159 < 0 then (some true) else ((laws_toAccount.f k a0_0 a0_1 l0_2).bind fun bt160 => ((spec_KeysOf.f k bt160.1 bt160.2.1 bt160.2.2).bind fun t165 => ((laws_toAccount.f k a0_0 a0_1 l0_2).bind fun bt168 => ((impl_KeysOf.f k bt168.1 bt168.2.1 bt168.2.2).bind fun t174 => ((laws_eqIntS.f k t174 t165).bind fun t177 => (if t177 = true then ((laws_toAccount.f k a0_0 a0_1 l0_2).bind fun bt178 => ((laws_eqAccount.f k bt168.1 bt168.2.1 bt168.2.2 bt178.1 bt178.2.1 bt178.2.2).bind fun t183 => (if t183 = true then ((laws_markAccount.f k bt168.1 bt168.2.1 bt168.2.2 1).bind fun bt184 => (if bt184.1 < 0 then (some false) else ((laws_eqIntS.f k t174 t165).bind fun t186 => (if t186 = true then ((laws_markIntS.f k t174 1).bind fun bt187 => ((laws_heldIntS.f k bt187.2 1).bind fun t189 => (if t189 < 0 then (some false) else (if t189 = bt187.1 then ((laws_toAccount.f k a0_0 a0_1 l0_2).bind fun bt190 => ((impl_KeysOf.f k bt190.1 bt190.2.1 bt190.2.2).bind fun t195 => ((laws_eqIntS.f k t195 t165).bind fun t198 => (if t198 = true then ((laws_heldIntS.f k bt187.2 1).bind fun t199 => (if t199 < 0 then (some false) else (if t199 = bt187.1 then (some true) else (some false)))) else (some false))))) else (some false))))) else (some false))))) else (some false)))) else (some false)))))))) = some r := H
  have A2 := Aside0.mk A20
  clear A20
  by_cases c3 : t159 < 0
  · rw [if_pos c3] at H
    have c3b0 : decide (t159 < 0) = true := decide_eq_true c3
    clear c3
    obtain rfl := Option.some.inj H
    go_enter Try.func6, Try.ntmps6
    go_wp2_with (first | ((with_reducible refine gate_dst (N := 1) rfl ?_); refine box_event ?hg (N := 1) ?hd (cs := #[.int .i64 a0_0, .int .i64 a0_1, .slice A0_2 l0_2.length c0_2]) (t := 48) ?hr ?_; (case hd => rfl); (case hg => rfl); (case hr => exact tG); intro gb158 hg w4 hbox hb; have n0_ := Aside0.mk (below_step tB hb); have n1_ := Aside0.mk (hbox); have n2_ := Aside0.mk ((by rw [hg]; exact (below_size tB) : w.heap.size ≤ gb158)); have n3_ := Aside0.mk ((by rw [hg]; exact (below_size tB) : w.heap.size ≤ gb158)); clear HB; have HB := n0_; have BK158 := n1_; have GW158 := n2_; have GE158 := n3_; clear n0_ n1_ n2_ n3_; clear hb hbox hg; obtain ⟨hcz5_0, hcz5_1, hcz5_2, hfz5_0, hfz5_1, hfz5_2⟩ := bc3 BK158.out) | ((with_reducible refine gate_callee (f := 30) rfl ?_); refine goesL_ (some 13) rfl rfl Try.func30 (by kernel_rfl) rfl #[.agg #[.int .i64 a0_0, .int .i64 a0_1, .slice A0_2 l0_2.length c0_2], .int .i64 1048576] rfl tL ?_; (with_reducible refine (laws_szAccount.calls a0_0 a0_1 _ _ l0_2 1048576 t159 _ ?side1 ?side2 A2.out).mono ?_); (case side1 => repeat (first | exact (Kd.C_below HR0_2.out HB.out) | (with_reducible refine Kd.C_alloc ?_ _) | (with_reducible refine Kd.C_drewN ?_ _) | (with_reducible refine Kd.C_drew ?_))); (case side2 => exact HC0_2.out); rintro e w6 ⟨rfl, hb⟩; refine ⟨_, rfl, ?_⟩; have n0_ := Aside0.mk (blk_below (g := gb158) (o := .cells #[.int .i64 a0_0, .int .i64 a0_1, .slice A0_2 l0_2.length c0_2] 48 (0, 0)) (tK BK158) hb); have n1_ := Aside0.mk (below_step tB hb); clear BK158; clear HB; have BK158 := n0_; have HB := n1_; clear n0_ n1_; (try clear hb); (try clear hb2); (try clear hk); (try clear hi)))
    go_ret
    exact ⟨tE, tB⟩
  · rw [if_neg c3] at H
    have c3b0 : decide (t159 < 0) = false := decide_eq_false c3
    clear c3
    replace H := Option.bind_eq_some_iff.mp H
    obtain ⟨⟨t160, t161, t162⟩, A70, H⟩ := H
    replace H : ((spec_KeysOf.f k t160 t161 t162).bind fun t165 => ((laws_toAccount.f k a0_0 a0_1 l0_2).bind fun bt168 => ((impl_KeysOf.f k bt168.1 bt168.2.1 bt168.2.2).bind fun t174 => ((laws_eqIntS.f k t174 t165).bind fun t177 => (if t177 = true then ((laws_toAccount.f k a0_0 a0_1 l0_2).bind fun bt178 => ((laws_eqAccount.f k bt168.1 bt168.2.1 bt168.2.2 bt178.1 bt178.2.1 bt178.2.2).bind fun t183 => (if t183 = true then ((laws_markAccount.f k bt168.1 bt168.2.1 bt168.2.2 1).bind fun bt184 => (if bt184.1 < 0 then (some false) else ((laws_eqIntS.f k t174 t165).bind fun t186 => (if t186 = true then ((laws_markIntS.f k t174 1).bind fun bt187 => ((laws_heldIntS.f k bt187.2 1).bind fun t189 => (if t189 < 0 then (some false) else (if t189 = bt187.1 then ((laws_toAccount.f k a0_0 a0_1 l0_2).bind fun bt190 => ((impl_KeysOf.f k bt190.1 bt190.2.1 bt190.2.2).bind fun t195 => ((laws_eqIntS.f k t195 t165).bind fun t198 => (if t198 = true then ((laws_heldIntS.f k bt187.2 1).bind fun t199 => (if t199 < 0 then (some false) else (if t199 = bt187.1 then (some true) else (some false)))) else (some false))))) else (some false))))) else (some false))))) else (some false)))) else (some false)))))) = some r := H
    have A7 := Aside0.mk A70
    clear A70
    replace H := Option.bind_eq_some_iff.mp H
    obtain ⟨t165, A80, H⟩ := H
    replace H : ((laws_toAccount.f k a0_0 a0_1 l0_2).bind fun bt168 => ((impl_KeysOf.f k bt168.1 bt168.2.1 bt168.2.2).bind fun t174 => ((laws_eqIntS.f k t174 t165).bind fun t177 => (if t177 = true then ((laws_toAccount.f k a0_0 a0_1 l0_2).bind fun bt178 => ((laws_eqAccount.f k bt168.1 bt168.2.1 bt168.2.2 bt178.1 bt178.2.1 bt178.2.2).bind fun t183 => (if t183 = true then ((laws_markAccount.f k bt168.1 bt168.2.1 bt168.2.2 1).bind fun bt184 => (if bt184.1 < 0 then (some false) else ((laws_eqIntS.f k t174 t165).bind fun t186 => (if t186 = true then ((laws_markIntS.f k t174 1).bind fun bt187 => ((laws_heldIntS.f k bt187.2 1).bind fun t189 => (if t189 < 0 then (some false) else (if t189 = bt187.1 then ((laws_toAccount.f k a0_0 a0_1 l0_2).bind fun bt190 => ((impl_KeysOf.f k bt190.1 bt190.2.1 bt190.2.2).bind fun t195 => ((laws_eqIntS.f k t195 t165).bind fun t198 => (if t198 = true then ((laws_heldIntS.f k bt187.2 1).bind fun t199 => (if t199 < 0 then (some false) else (if t199 = bt187.1 then (some true) else (some false)))) else (some false))))) else (some false))))) else (some false))))) else (some false)))) else (some false))))) = some r := H
    have A8 := Aside0.mk A80
    clear A80
    replace H := Option.bind_eq_some_iff.mp H
    obtain ⟨⟨t168, t169, t170⟩, A90, H⟩ := H
    replace H : ((impl_KeysOf.f k t168 t169 t170).bind fun t174 => ((laws_eqIntS.f k t174 t165).bind fun t177 => (if t177 = true then ((laws_toAccount.f k a0_0 a0_1 l0_2).bind fun bt178 => ((laws_eqAccount.f k t168 t169 t170 bt178.1 bt178.2.1 bt178.2.2).bind fun t183 => (if t183 = true then ((laws_markAccount.f k t168 t169 t170 1).bind fun bt184 => (if bt184.1 < 0 then (some false) else ((laws_eqIntS.f k t174 t165).bind fun t186 => (if t186 = true then ((laws_markIntS.f k t174 1).bind fun bt187 => ((laws_heldIntS.f k bt187.2 1).bind fun t189 => (if t189 < 0 then (some false) else (if t189 = bt187.1 then ((laws_toAccount.f k a0_0 a0_1 l0_2).bind fun bt190 => ((impl_KeysOf.f k bt190.1 bt190.2.1 bt190.2.2).bind fun t195 => ((laws_eqIntS.f k t195 t165).bind fun t198 => (if t198 = true then ((laws_heldIntS.f k bt187.2 1).bind fun t199 => (if t199 < 0 then (some false) else (if t199 = bt187.1 then (some true) else (some false)))) else (some false))))) else (some false))))) else (some false))))) else (some false)))) else (some false)))) = some r := H
    have A9 := Aside0.mk A90
    clear A90
    replace H := Option.bind_eq_some_iff.mp H
    obtain ⟨t174, A100, H⟩ := H
    replace H : ((laws_eqIntS.f k t174 t165).bind fun t177 => (if t177 = true then ((laws_toAccount.f k a0_0 a0_1 l0_2).bind fun bt178 => ((laws_eqAccount.f k t168 t169 t170 bt178.1 bt178.2.1 bt178.2.2).bind fun t183 => (if t183 = true then ((laws_markAccount.f k t168 t169 t170 1).bind fun bt184 => (if bt184.1 < 0 then (some false) else ((laws_eqIntS.f k t174 t165).bind fun t186 => (if t186 = true then ((laws_markIntS.f k t174 1).bind fun bt187 => ((laws_heldIntS.f k bt187.2 1).bind fun t189 => (if t189 < 0 then (some false) else (if t189 = bt187.1 then ((laws_toAccount.f k a0_0 a0_1 l0_2).bind fun bt190 => ((impl_KeysOf.f k bt190.1 bt190.2.1 bt190.2.2).bind fun t195 => ((laws_eqIntS.f k t195 t165).bind fun t198 => (if t198 = true then ((laws_heldIntS.f k bt187.2 1).bind fun t199 => (if t199 < 0 then (some false) else (if t199 = bt187.1 then (some true) else (some false)))) else (some false))))) else (some false))))) else (some false))))) else (some false)))) else (some false))) = some r := H
    have A10 := Aside0.mk A100
    clear A100
    replace H := Option.bind_eq_some_iff.mp H
    obtain ⟨t177, A110, H⟩ := H
    replace H : (if t177 = true then ((laws_toAccount.f k a0_0 a0_1 l0_2).bind fun bt178 => ((laws_eqAccount.f k t168 t169 t170 bt178.1 bt178.2.1 bt178.2.2).bind fun t183 => (if t183 = true then ((laws_markAccount.f k t168 t169 t170 1).bind fun bt184 => (if bt184.1 < 0 then (some false) else ((laws_eqIntS.f k t174 t165).bind fun t186 => (if t186 = true then ((laws_markIntS.f k t174 1).bind fun bt187 => ((laws_heldIntS.f k bt187.2 1).bind fun t189 => (if t189 < 0 then (some false) else (if t189 = bt187.1 then ((laws_toAccount.f k a0_0 a0_1 l0_2).bind fun bt190 => ((impl_KeysOf.f k bt190.1 bt190.2.1 bt190.2.2).bind fun t195 => ((laws_eqIntS.f k t195 t165).bind fun t198 => (if t198 = true then ((laws_heldIntS.f k bt187.2 1).bind fun t199 => (if t199 < 0 then (some false) else (if t199 = bt187.1 then (some true) else (some false)))) else (some false))))) else (some false))))) else (some false))))) else (some false)))) else (some false)) = some r := H
    have A11 := Aside0.mk A110
    clear A110
    by_cases c12 : t177 = true
    · subst c12
      have H1 : ((laws_toAccount.f k a0_0 a0_1 l0_2).bind fun bt178 => ((laws_eqAccount.f k t168 t169 t170 bt178.1 bt178.2.1 bt178.2.2).bind fun t183 => (if t183 = true then ((laws_markAccount.f k t168 t169 t170 1).bind fun bt184 => (if bt184.1 < 0 then (some false) else ((laws_eqIntS.f k t174 t165).bind fun t186 => (if t186 = true then ((laws_markIntS.f k t174 1).bind fun bt187 => ((laws_heldIntS.f k bt187.2 1).bind fun t189 => (if t189 < 0 then (some false) else (if t189 = bt187.1 then ((laws_toAccount.f k a0_0 a0_1 l0_2).bind fun bt190 => ((impl_KeysOf.f k bt190.1 bt190.2.1 bt190.2.2).bind fun t195 => ((laws_eqIntS.f k t195 t165).bind fun t198 => (if t198 = true then ((laws_heldIntS.f k bt187.2 1).bind fun t199 => (if t199 < 0 then (some false) else (if t199 = bt187.1 then (some true) else (some false)))) else (some false))))) else (some false))))) else (some false))))) else (some false)))) = some r := by rw [if_pos rfl] at H; exact H
      clear H
      have H := H1
      clear H1
      replace H := Option.bind_eq_some_iff.mp H
      obtain ⟨⟨t178, t179, t180⟩, A130, H⟩ := H
      replace H : ((laws_eqAccount.f k t168 t169 t170 t178 t179 t180).bind fun t183 => (if t183 = true then ((laws_markAccount.f k t168 t169 t170 1).bind fun bt184 => (if bt184.1 < 0 then (some false) else ((laws_eqIntS.f k t174 t165).bind fun t186 => (if t186 = true then ((laws_markIntS.f k t174 1).bind fun bt187 => ((laws_heldIntS.f k bt187.2 1).bind fun t189 => (if t189 < 0 then (some false) else (if t189 = bt187.1 then ((laws_toAccount.f k a0_0 a0_1 l0_2).bind fun bt190 => ((impl_KeysOf.f k bt190.1 bt190.2.1 bt190.2.2).bind fun t195 => ((laws_eqIntS.f k t195 t165).bind fun t198 => (if t198 = true then ((laws_heldIntS.f k bt187.2 1).bind fun t199 => (if t199 < 0 then (some false) else (if t199 = bt187.1 then (some true) else (some false)))) else (some false))))) else (some false))))) else (some false))))) else (some false))) = some r := H
      have A13 := Aside0.mk A130
      clear A130
      replace H := Option.bind_eq_some_iff.mp H
      obtain ⟨t183, A140, H⟩ := H
      replace H : (if t183 = true then ((laws_markAccount.f k t168 t169 t170 1).bind fun bt184 => (if bt184.1 < 0 then (some false) else ((laws_eqIntS.f k t174 t165).bind fun t186 => (if t186 = true then ((laws_markIntS.f k t174 1).bind fun bt187 => ((laws_heldIntS.f k bt187.2 1).bind fun t189 => (if t189 < 0 then (some false) else (if t189 = bt187.1 then ((laws_toAccount.f k a0_0 a0_1 l0_2).bind fun bt190 => ((impl_KeysOf.f k bt190.1 bt190.2.1 bt190.2.2).bind fun t195 => ((laws_eqIntS.f k t195 t165).bind fun t198 => (if t198 = true then ((laws_heldIntS.f k bt187.2 1).bind fun t199 => (if t199 < 0 then (some false) else (if t199 = bt187.1 then (some true) else (some false)))) else (some false))))) else (some false))))) else (some false))))) else (some false)) = some r := H
      have A14 := Aside0.mk A140
      clear A140
      by_cases c15 : t183 = true
      · subst c15
        have H1 : ((laws_markAccount.f k t168 t169 t170 1).bind fun bt184 => (if bt184.1 < 0 then (some false) else ((laws_eqIntS.f k t174 t165).bind fun t186 => (if t186 = true then ((laws_markIntS.f k t174 1).bind fun bt187 => ((laws_heldIntS.f k bt187.2 1).bind fun t189 => (if t189 < 0 then (some false) else (if t189 = bt187.1 then ((laws_toAccount.f k a0_0 a0_1 l0_2).bind fun bt190 => ((impl_KeysOf.f k bt190.1 bt190.2.1 bt190.2.2).bind fun t195 => ((laws_eqIntS.f k t195 t165).bind fun t198 => (if t198 = true then ((laws_heldIntS.f k bt187.2 1).bind fun t199 => (if t199 < 0 then (some false) else (if t199 = bt187.1 then (some true) else (some false)))) else (some false))))) else (some false))))) else (some false))))) = some r := by rw [if_pos rfl] at H; exact H
        clear H
        have H := H1
        clear H1
        replace H := Option.bind_eq_some_iff.mp H
        obtain ⟨⟨t184, t185⟩, A160, H⟩ := H
        replace H : (if t184 < 0 then (some false) else ((laws_eqIntS.f k t174 t165).bind fun t186 => (if t186 = true then ((laws_markIntS.f k t174 1).bind fun bt187 => ((laws_heldIntS.f k bt187.2 1).bind fun t189 => (if t189 < 0 then (some false) else (if t189 = bt187.1 then ((laws_toAccount.f k a0_0 a0_1 l0_2).bind fun bt190 => ((impl_KeysOf.f k bt190.1 bt190.2.1 bt190.2.2).bind fun t195 => ((laws_eqIntS.f k t195 t165).bind fun t198 => (if t198 = true then ((laws_heldIntS.f k bt187.2 1).bind fun t199 => (if t199 < 0 then (some false) else (if t199 = bt187.1 then (some true) else (some false)))) else (some false))))) else (some false))))) else (some false)))) = some r := H
        have A16 := Aside0.mk A160
        clear A160
        by_cases c17 : t184 < 0
        · rw [if_pos c17] at H
          have c17b0 : decide (t184 < 0) = true := decide_eq_true c17
          clear c17
          exact absurd ((Option.some.inj H).trans hT_) (by decide)
        · rw [if_neg c17] at H
          have c17b0 : decide (t184 < 0) = false := decide_eq_false c17
          clear c17
          replace H := Option.bind_eq_some_iff.mp H
          obtain ⟨t186, A180, H⟩ := H
          replace H : (if t186 = true then ((laws_markIntS.f k t174 1).bind fun bt187 => ((laws_heldIntS.f k bt187.2 1).bind fun t189 => (if t189 < 0 then (some false) else (if t189 = bt187.1 then ((laws_toAccount.f k a0_0 a0_1 l0_2).bind fun bt190 => ((impl_KeysOf.f k bt190.1 bt190.2.1 bt190.2.2).bind fun t195 => ((laws_eqIntS.f k t195 t165).bind fun t198 => (if t198 = true then ((laws_heldIntS.f k bt187.2 1).bind fun t199 => (if t199 < 0 then (some false) else (if t199 = bt187.1 then (some true) else (some false)))) else (some false))))) else (some false))))) else (some false)) = some r := H
          have A18 := Aside0.mk A180
          clear A180
          by_cases c19 : t186 = true
          · subst c19
            have H1 : ((laws_markIntS.f k t174 1).bind fun bt187 => ((laws_heldIntS.f k bt187.2 1).bind fun t189 => (if t189 < 0 then (some false) else (if t189 = bt187.1 then ((laws_toAccount.f k a0_0 a0_1 l0_2).bind fun bt190 => ((impl_KeysOf.f k bt190.1 bt190.2.1 bt190.2.2).bind fun t195 => ((laws_eqIntS.f k t195 t165).bind fun t198 => (if t198 = true then ((laws_heldIntS.f k bt187.2 1).bind fun t199 => (if t199 < 0 then (some false) else (if t199 = bt187.1 then (some true) else (some false)))) else (some false))))) else (some false))))) = some r := by rw [if_pos rfl] at H; exact H
            clear H
            have H := H1
            clear H1
            replace H := Option.bind_eq_some_iff.mp H
            obtain ⟨⟨t187, t188⟩, A200, H⟩ := H
            replace H : ((laws_heldIntS.f k t188 1).bind fun t189 => (if t189 < 0 then (some false) else (if t189 = t187 then ((laws_toAccount.f k a0_0 a0_1 l0_2).bind fun bt190 => ((impl_KeysOf.f k bt190.1 bt190.2.1 bt190.2.2).bind fun t195 => ((laws_eqIntS.f k t195 t165).bind fun t198 => (if t198 = true then ((laws_heldIntS.f k t188 1).bind fun t199 => (if t199 < 0 then (some false) else (if t199 = t187 then (some true) else (some false)))) else (some false))))) else (some false)))) = some r := H
            have A20 := Aside0.mk A200
            clear A200
            replace H := Option.bind_eq_some_iff.mp H
            obtain ⟨t189, A210, H⟩ := H
            replace H : (if t189 < 0 then (some false) else (if t189 = t187 then ((laws_toAccount.f k a0_0 a0_1 l0_2).bind fun bt190 => ((impl_KeysOf.f k bt190.1 bt190.2.1 bt190.2.2).bind fun t195 => ((laws_eqIntS.f k t195 t165).bind fun t198 => (if t198 = true then ((laws_heldIntS.f k t188 1).bind fun t199 => (if t199 < 0 then (some false) else (if t199 = t187 then (some true) else (some false)))) else (some false))))) else (some false))) = some r := H
            have A21 := Aside0.mk A210
            clear A210
            by_cases c22 : t189 < 0
            · rw [if_pos c22] at H
              have c22b0 : decide (t189 < 0) = true := decide_eq_true c22
              clear c22
              exact absurd ((Option.some.inj H).trans hT_) (by decide)
            · rw [if_neg c22] at H
              have c22b0 : decide (t189 < 0) = false := decide_eq_false c22
              clear c22
              by_cases c23 : t189 = t187
              · rw [if_pos c23] at H
                have c23b0 : (t189 == t187) = true := beq_iff_eq.mpr c23
                have c23b1 : (t189 != t187) = false := bne_eq_false_iff_eq.mpr c23
                clear c23
                replace H := Option.bind_eq_some_iff.mp H
                obtain ⟨⟨t190, t191, t192⟩, A240, H⟩ := H
                replace H : ((impl_KeysOf.f k t190 t191 t192).bind fun t195 => ((laws_eqIntS.f k t195 t165).bind fun t198 => (if t198 = true then ((laws_heldIntS.f k t188 1).bind fun t199 => (if t199 < 0 then (some false) else (if t199 = t187 then (some true) else (some false)))) else (some false)))) = some r := H
                have A24 := Aside0.mk A240
                clear A240
                replace H := Option.bind_eq_some_iff.mp H
                obtain ⟨t195, A250, H⟩ := H
                replace H : ((laws_eqIntS.f k t195 t165).bind fun t198 => (if t198 = true then ((laws_heldIntS.f k t188 1).bind fun t199 => (if t199 < 0 then (some false) else (if t199 = t187 then (some true) else (some false)))) else (some false))) = some r := H
                have A25 := Aside0.mk A250
                clear A250
                replace H := Option.bind_eq_some_iff.mp H
                obtain ⟨t198, A260, H⟩ := H
                replace H : (if t198 = true then ((laws_heldIntS.f k t188 1).bind fun t199 => (if t199 < 0 then (some false) else (if t199 = t187 then (some true) else (some false)))) else (some false)) = some r := H
                have A26 := Aside0.mk A260
                clear A260
                by_cases c27 : t198 = true
                · subst c27
                  have H1 : ((laws_heldIntS.f k t188 1).bind fun t199 => (if t199 < 0 then (some false) else (if t199 = t187 then (some true) else (some false)))) = some r := by rw [if_pos rfl] at H; exact H
                  clear H
                  have H := H1
                  clear H1
                  replace H := Option.bind_eq_some_iff.mp H
                  obtain ⟨t199, A280, H⟩ := H
                  replace H : (if t199 < 0 then (some false) else (if t199 = t187 then (some true) else (some false))) = some r := H
                  have A28 := Aside0.mk A280
                  clear A280
                  by_cases c29 : t199 < 0
                  · rw [if_pos c29] at H
                    have c29b0 : decide (t199 < 0) = true := decide_eq_true c29
                    clear c29
                    exact absurd ((Option.some.inj H).trans hT_) (by decide)
                  · rw [if_neg c29] at H
                    have c29b0 : decide (t199 < 0) = false := decide_eq_false c29
                    clear c29
                    by_cases c30 : t199 = t187
                    · rw [if_pos c30] at H
                      have c30b0 : (t199 == t187) = true := beq_iff_eq.mpr c30
                      have c30b1 : (t199 != t187) = false := bne_eq_false_iff_eq.mpr c30
                      clear c30
                      obtain rfl := Option.some.inj H
                      go_enter Try.func6, Try.ntmps6
                      try go_wp2_with (first | ((with_reducible refine gate_dst (N := 1) rfl ?_); refine box_event ?hg (N := 1) ?hd (cs := #[.int .i64 a0_0, .int .i64 a0_1, .slice A0_2 l0_2.length c0_2]) (t := 48) ?hr ?_; (case hd => rfl); (case hg => rfl); (case hr => exact tG); intro gb158 hg w31 hbox hb; have n0_ := Aside0.mk (below_step tB hb); have n1_ := Aside0.mk (hbox); have n2_ := Aside0.mk ((by rw [hg]; exact (below_size tB) : w.heap.size ≤ gb158)); have n3_ := Aside0.mk ((by rw [hg]; exact (below_size tB) : w.heap.size ≤ gb158)); clear HB; have HB := n0_; have BK158 := n1_; have GW158 := n2_; have GE158 := n3_; clear n0_ n1_ n2_ n3_; clear hb hbox hg; obtain ⟨hcz32_0, hcz32_1, hcz32_2, hfz32_0, hfz32_1, hfz32_2⟩ := bc3 BK158.out) | ((with_reducible refine gate_callee (f := 30) rfl ?_); refine goesL_ (some 13) rfl rfl Try.func30 (by kernel_rfl) rfl #[.agg #[.int .i64 a0_0, .int .i64 a0_1, .slice A0_2 l0_2.length c0_2], .int .i64 1048576] rfl tL ?_; (with_reducible refine (laws_szAccount.calls a0_0 a0_1 _ _ l0_2 1048576 t159 _ ?side1 ?side2 A2.out).mono ?_); (case side1 => repeat (first | exact (Kd.C_below HR0_2.out HB.out) | (with_reducible refine Kd.C_alloc ?_ _) | (with_reducible refine Kd.C_drewN ?_ _) | (with_reducible refine Kd.C_drew ?_))); (case side2 => exact HC0_2.out); rintro e w33 ⟨rfl, hb⟩; refine ⟨_, rfl, ?_⟩; have n0_ := Aside0.mk (blk_below (g := gb158) (o := .cells #[.int .i64 a0_0, .int .i64 a0_1, .slice A0_2 l0_2.length c0_2] 48 (0, 0)) (tK BK158) hb); have n1_ := Aside0.mk (below_step tB hb); clear BK158; clear HB; have BK158 := n0_; have HB := n1_; clear n0_ n1_; (try clear hb); (try clear hb2); (try clear hk); (try clear hi); obtain ⟨hcz34_0, hcz34_1, hcz34_2, hfz34_0, hfz34_1, hfz34_2⟩ := bc3 BK158.out) | ((with_reducible refine gate_callee (f := 32) rfl ?_); refine goesL_ (some 17) rfl rfl Try.func32 (by kernel_rfl) rfl #[.agg #[.int .i64 a0_0, .int .i64 a0_1, .slice A0_2 l0_2.length c0_2]] rfl tL ?_; (with_reducible refine (laws_toAccount.calls k a0_0 a0_1 _ _ l0_2 t160 t161 t162 _ ?side1 ?side2 A7.out).mono ?_); (case side1 => repeat (first | exact (Kd.C_below HR0_2.out HB.out) | (with_reducible refine Kd.C_alloc ?_ _) | (with_reducible refine Kd.C_drewN ?_ _) | (with_reducible refine Kd.C_drew ?_))); (case side2 => exact HC0_2.out); rintro e w35 ⟨v163, rfl, ho0, hb⟩; refine ⟨_, rfl, ?_⟩; have n0_ := Aside0.mk (Kd.R_lower ho0 (below_size tB)); have n1_ := Aside0.mk (blk_below (g := gb158) (o := .cells #[.int .i64 a0_0, .int .i64 a0_1, .slice A0_2 l0_2.length c0_2] 48 (0, 0)) (tK BK158) hb); have n2_ := Aside0.mk (below_step tB hb); clear BK158; clear HB; have HO164 := n0_; have BK158 := n1_; have HB := n2_; clear n0_ n1_ n2_; (try clear hb); (try clear hb2); (try clear hk); (try clear hi); (try clear ho0); obtain ⟨Ao36, co36, eo36⟩ := Kd.R_slice HO164.out; subst eo36) | ((with_reducible refine gate_callee (f := 31) rfl ?_); refine goesL_ (some 18) rfl rfl Try.func31 (by kernel_rfl) rfl #[.agg #[.int .i64 t160, .int .i64 t161, .slice Ao36 t162.length co36]] rfl tL ?_; (with_reducible refine (spec_KeysOf.calls k t160 t161 _ _ t162 t165 _ ?side1 ?side2 A8.out).mono ?_); (case side1 => repeat (first | exact (Kd.R_reads' HO164.out).2.2 | (with_reducible refine Kd.C_alloc ?_ _) | (with_reducible refine Kd.C_drewN ?_ _) | (with_reducible refine Kd.C_drew ?_))); (case side2 => exact (Kd.R_reads' HO164.out).2.1); rintro e w37 ⟨v166, rfl, ho0, hb⟩; refine ⟨_, rfl, ?_⟩; have n0_ := Aside0.mk (Kd.R_below (tR HO164) hb); have n1_ := Aside0.mk (Kd.R_lower ho0 (below_size tB)); have n2_ := Aside0.mk (blk_below (g := gb158) (o := .cells #[.int .i64 a0_0, .int .i64 a0_1, .slice A0_2 l0_2.length c0_2] 48 (0, 0)) (tK BK158) hb); have n3_ := Aside0.mk (below_step tB hb); clear HO164; clear BK158; clear HB; have HO164 := n0_; have HO167 := n1_; have BK158 := n2_; have HB := n3_; clear n0_ n1_ n2_ n3_; (try clear hb); (try clear hb2); (try clear hk); (try clear hi); (try clear ho0); obtain ⟨hcz38_0, hcz38_1, hcz38_2, hfz38_0, hfz38_1, hfz38_2⟩ := bc3 BK158.out) | ((with_reducible refine gate_callee (f := 32) rfl ?_); refine goesL_ (some 20) rfl rfl Try.func32 (by kernel_rfl) rfl #[.agg #[.int .i64 a0_0, .int .i64 a0_1, .slice A0_2 l0_2.length c0_2]] rfl tL ?_; (with_reducible refine (laws_toAccount.calls k a0_0 a0_1 _ _ l0_2 t168 t169 t170 _ ?side1 ?side2 A9.out).mono ?_); (case side1 => repeat (first | exact (Kd.C_below HR0_2.out HB.out) | (with_reducible refine Kd.C_alloc ?_ _) | (with_reducible refine Kd.C_drewN ?_ _) | (with_reducible refine Kd.C_drew ?_))); (case side2 => exact HC0_2.out); rintro e w39 ⟨v171, rfl, ho0, hb⟩; refine ⟨_, rfl, ?_⟩; have n0_ := Aside0.mk (Kd.R_elder' (tR HO164) (Kd.R_base ho0) hb); have n1_ := Aside0.mk (Kd.R_below (tR HO167) hb); have n2_ := Aside0.mk (Kd.R_lower (Kd.R_new' ho0 (Kd.R_lt (tR HO164))) (below_size tB)); have n3_ := Aside0.mk (blk_below (g := gb158) (o := .cells #[.int .i64 a0_0, .int .i64 a0_1, .slice A0_2 l0_2.length c0_2] 48 (0, 0)) (tK BK158) hb); have n4_ := Aside0.mk (below_step tB hb); clear HO164; clear HO167; clear BK158; clear HB; have HO164 := n0_; have HO167 := n1_; have HO172 := n2_; have BK158 := n3_; have HB := n4_; clear n0_ n1_ n2_ n3_ n4_; (try clear hb); (try clear hb2); (try clear hk); (try clear hi); (try clear ho0)) | ((with_reducible refine gate_dst (N := 5) rfl ?_); refine box_event ?hg (N := 5) ?hd (cs := #[.int .i64 0, .int .i64 0, .slice none 0 0]) (t := 53) ?hr ?_; (case hd => rfl); (case hg => rfl); (case hr => exact tG); intro gb173 hg w40 hbox hb; have n0_ := Aside0.mk (Kd.R_below (tR HO164) hb); have n1_ := Aside0.mk (Kd.R_below (tR HO167) hb); have n2_ := Aside0.mk (Kd.R_below (tR HO172) hb); have n3_ := Aside0.mk (blk_below (g := gb158) (o := .cells #[.int .i64 a0_0, .int .i64 a0_1, .slice A0_2 l0_2.length c0_2] 48 (0, 0)) (tK BK158) hb); have n4_ := Aside0.mk (below_step tB hb); have n5_ := Aside0.mk (hbox); have n6_ := Aside0.mk ((by rw [hg]; exact (below_size tB) : w.heap.size ≤ gb173)); have n7_ := Aside0.mk ((by rw [hg]; exact (below_size tB) : w.heap.size ≤ gb173)); have n8_ := Aside0.mk ((by rw [hg]; exact Nat.ne_of_lt (blk_lt (g := gb158) (o := .cells #[.int .i64 a0_0, .int .i64 a0_1, .slice A0_2 l0_2.length c0_2] 48 (0, 0)) (tK BK158)) : gb158 ≠ gb173)); have n9_ := Aside0.mk ((by rw [hg]; exact Nat.ne_of_gt (blk_lt (g := gb158) (o := .cells #[.int .i64 a0_0, .int .i64 a0_1, .slice A0_2 l0_2.length c0_2] 48 (0, 0)) (tK BK158)) : gb173 ≠ gb158)); clear HO164; clear HO167; clear HO172; clear BK158; clear HB; have HO164 := n0_; have HO167 := n1_; have HO172 := n2_; have BK158 := n3_; have HB := n4_; have BK173 := n5_; have GW173 := n6_; have GE173 := n7_; have NB158_173 := n8_; have NB173_158 := n9_; clear n0_ n1_ n2_ n3_ n4_ n5_ n6_ n7_ n8_ n9_; clear hb hbox hg; have hnb41 := NB173_158.out; have hnc41 := NB158_173.out; obtain ⟨hcz42_0, hcz42_1, hcz42_2, hfz42_0, hfz42_1, hfz42_2⟩ := bc3 BK173.out; obtain ⟨Ao43, co43, eo43⟩ := Kd.R_slice HO172.out; subst eo43) | ((with_reducible refine gate_callee (f := 33) rfl ?_); refine goesL_ (some 22) rfl rfl Try.func33 (by kernel_rfl) rfl #[.agg #[.int .i64 t168, .int .i64 t169, .slice Ao43 t170.length co43]] rfl tL ?_; (with_reducible refine (impl_KeysOf.calls k t168 t169 _ _ t170 t174 _ ?side1 ?side2 A10.out).mono ?_); (case side1 => refine (Kd.R_reads' (e := 124) (base := w.heap.size) (ok := fun k_ => (True ∧ some k_ ≠ (.slice Ao36 t162.length co36 : Value).ownBlock)) (n := t170.length) (c := co43) ?_).2.2; exact (by (with_reducible repeat (first | apply Kd.R_alloc | apply Kd.R_drewN | apply Kd.R_drew)); exact (Kd.R_mono (Kd.R_far (p := ⟨gb173, 2, none⟩) (Kd.R_far (p := ⟨gb173, 1, none⟩) (Kd.R_far (p := ⟨gb173, 0, none⟩) (Kd.R_types HO172.out BK173.out (by decide)) (fun _ hk => hk.2) (.int .i64 t168)) (fun _ hk => hk.2) (.int .i64 t169)) (fun _ hk => hk.2) (.slice Ao43 t170.length co43)) (fun _ h_ => h_.1)))); (case side2 => exact (Kd.R_reads' HO172.out).2.1); rintro e w44 ⟨v175, rfl, ho0, hb⟩; refine ⟨_, rfl, ?_⟩; have n0_ := Aside0.mk (Kd.R_below (by (with_reducible repeat (first | apply Kd.R_alloc | apply Kd.R_drewN | apply Kd.R_drew)); exact (Kd.R_mono (Kd.R_far (p := ⟨gb173, 2, none⟩) (Kd.R_far (p := ⟨gb173, 1, none⟩) (Kd.R_far (p := ⟨gb173, 0, none⟩) (Kd.R_types HO164.out BK173.out (by decide)) (fun _ hk => hk.2) (.int .i64 t168)) (fun _ hk => hk.2) (.int .i64 t169)) (fun _ hk => hk.2) (.slice Ao43 t170.length co43)) (fun _ h_ => h_.1))) hb); have n1_ := Aside0.mk (Kd.R_elder' (by (with_reducible repeat (first | apply Kd.R_alloc | apply Kd.R_drewN | apply Kd.R_drew)); exact (Kd.R_mono (Kd.R_far (p := ⟨gb173, 2, none⟩) (Kd.R_far (p := ⟨gb173, 1, none⟩) (Kd.R_far (p := ⟨gb173, 0, none⟩) (Kd.R_types HO167.out BK173.out (by decide)) (fun _ hk => hk.2) (.int .i64 t168)) (fun _ hk => hk.2) (.int .i64 t169)) (fun _ hk => hk.2) (.slice Ao43 t170.length co43)) (fun _ h_ => h_.1))) (Kd.R_base ho0) hb); have n2_ := Aside0.mk (Kd.R_below (by (with_reducible repeat (first | apply Kd.R_alloc | apply Kd.R_drewN | apply Kd.R_drew)); exact (Kd.R_mono (Kd.R_far (p := ⟨gb173, 2, none⟩) (Kd.R_far (p := ⟨gb173, 1, none⟩) (Kd.R_far (p := ⟨gb173, 0, none⟩) (Kd.R_types HO172.out BK173.out (by decide)) (fun _ hk => hk.2) (.int .i64 t168)) (fun _ hk => hk.2) (.int .i64 t169)) (fun _ hk => hk.2) (.slice Ao43 t170.length co43)) (fun _ h_ => h_.1))) hb); have n3_ := Aside0.mk (Kd.R_lower (Kd.R_new' ho0 (Kd.R_lt (by (with_reducible repeat (first | apply Kd.R_alloc | apply Kd.R_drewN | apply Kd.R_drew)); exact (Kd.R_mono (Kd.R_far (p := ⟨gb173, 2, none⟩) (Kd.R_far (p := ⟨gb173, 1, none⟩) (Kd.R_far (p := ⟨gb173, 0, none⟩) (Kd.R_types HO167.out BK173.out (by decide)) (fun _ hk => hk.2) (.int .i64 t168)) (fun _ hk => hk.2) (.int .i64 t169)) (fun _ hk => hk.2) (.slice Ao43 t170.length co43)) (fun _ h_ => h_.1))))) (below_size tB)); have n4_ := Aside0.mk (blk_below (g := gb158) (o := .cells #[.int .i64 a0_0, .int .i64 a0_1, .slice A0_2 l0_2.length c0_2] 48 (0, 0)) (by (with_reducible repeat (first | refine blk_drewN ?_ _ | refine blk_drew ?_ | refine blk_alloc ?_ _)); refine blk_far ?_ NB158_173.out _; (with_reducible repeat (first | refine blk_drewN ?_ _ | refine blk_drew ?_ | refine blk_alloc ?_ _)); refine blk_far ?_ NB158_173.out _; (with_reducible repeat (first | refine blk_drewN ?_ _ | refine blk_drew ?_ | refine blk_alloc ?_ _)); refine blk_far ?_ NB158_173.out _; (with_reducible repeat (first | refine blk_drewN ?_ _ | refine blk_drew ?_ | refine blk_alloc ?_ _)); exact BK158.out) hb); have n5_ := Aside0.mk (blk_below (g := gb173) (o := .cells #[.int .i64 t168, .int .i64 t169, .slice Ao43 t170.length co43] 53 (0, 0)) (by (with_reducible repeat (first | refine blk_drewN ?_ _ | refine blk_drew ?_ | refine blk_alloc ?_ _)); refine blk_put (cs := #[.int .i64 t168, .int .i64 t169, .slice none 0 0]) ?_ 2 _ rfl; (with_reducible repeat (first | refine blk_drewN ?_ _ | refine blk_drew ?_ | refine blk_alloc ?_ _)); refine blk_put (cs := #[.int .i64 t168, .int .i64 0, .slice none 0 0]) ?_ 1 _ rfl; (with_reducible repeat (first | refine blk_drewN ?_ _ | refine blk_drew ?_ | refine blk_alloc ?_ _)); refine blk_put (cs := #[.int .i64 0, .int .i64 0, .slice none 0 0]) ?_ 0 _ rfl; (with_reducible repeat (first | refine blk_drewN ?_ _ | refine blk_drew ?_ | refine blk_alloc ?_ _)); exact BK173.out) hb); have n6_ := Aside0.mk (below_step tB hb); clear HO164; clear HO167; clear HO172; clear BK158; clear BK173; clear HB; have HO164 := n0_; have HO167 := n1_; have HO172 := n2_; have HO176 := n3_; have BK158 := n4_; have BK173 := n5_; have HB := n6_; clear n0_ n1_ n2_ n3_ n4_ n5_ n6_; (try clear hb); (try clear hb2); (try clear hk); (try clear hi); (try clear ho0); obtain ⟨Ao45, co45, eo45⟩ := Kd.R_slice HO176.out; subst eo45; obtain ⟨Ao46, co46, eo46⟩ := Kd.R_slice HO167.out; subst eo46) | ((with_reducible refine gate_callee (f := 34) rfl ?_); refine goesL_ (some 25) rfl rfl Try.func34 (by kernel_rfl) rfl #[.slice Ao45 t174.length co45, .slice Ao46 t165.length co46] rfl tL ?_; (with_reducible refine (laws_eqIntS.calls k _ _ t174 _ _ t165 true _ ?side1 ?side2 ?side3 ?side4 A11.out).mono ?_); (case side1 => repeat (first | exact (Kd.R_reads' HO176.out).2.2 | (with_reducible refine Kd.C_alloc ?_ _) | (with_reducible refine Kd.C_drewN ?_ _) | (with_reducible refine Kd.C_drew ?_))); (case side2 => exact (Kd.R_reads' HO176.out).2.1); (case side3 => repeat (first | exact (Kd.R_reads' HO167.out).2.2 | (with_reducible refine Kd.C_alloc ?_ _) | (with_reducible refine Kd.C_drewN ?_ _) | (with_reducible refine Kd.C_drew ?_))); (case side4 => exact (Kd.R_reads' HO167.out).2.1); rintro e w' ⟨rfl, ⟨nd, rfl⟩⟩; refine ⟨_, rfl, ?_⟩))
                      (try (rw [drewN_self w44]; generalize hq_ : World.drewN w44 _ = w44; have n0_ : Aside0 (Kd.R k124 124 w44 w.heap.size (fun k_ => some k_ ≠ (.slice Ao43 t170.length co43 : Value).ownBlock) (.slice Ao36 t162.length co36) t162) := ⟨by rw [← hq_]; exact (by (with_reducible repeat (first | apply Kd.R_alloc | apply Kd.R_drewN | apply Kd.R_drew)); exact Kd.R_mono HO164.out (fun _ hk => hk.2))⟩; have n1_ : Aside0 (Kd.R (Kd.int .i64) 3 w44 w.heap.size (fun k_ => some k_ ≠ (.slice Ao45 t174.length co45 : Value).ownBlock) (.slice Ao46 t165.length co46) t165) := ⟨by rw [← hq_]; exact (by (with_reducible repeat (first | apply Kd.R_alloc | apply Kd.R_drewN | apply Kd.R_drew)); exact Kd.R_mono HO167.out (fun _ hk => hk.2))⟩; have n2_ : Aside0 (Kd.R k124 124 w44 w.heap.size (fun k_ => some k_ ≠ (.slice Ao36 t162.length co36 : Value).ownBlock) (.slice Ao43 t170.length co43) t170) := ⟨by rw [← hq_]; exact (by (with_reducible repeat (first | apply Kd.R_alloc | apply Kd.R_drewN | apply Kd.R_drew)); exact Kd.R_mono HO172.out (fun _ hk => hk.2))⟩; have n3_ : Aside0 (Kd.R (Kd.int .i64) 3 w44 w.heap.size (fun k_ => some k_ ≠ (.slice Ao46 t165.length co46 : Value).ownBlock) (.slice Ao45 t174.length co45) t174) := ⟨by rw [← hq_]; exact (by (with_reducible repeat (first | apply Kd.R_alloc | apply Kd.R_drewN | apply Kd.R_drew)); exact Kd.R_mono HO176.out (fun _ hk => hk.2))⟩; have n4_ : Aside0 (w44.heap[gb158]? = some (.cells #[.int .i64 a0_0, .int .i64 a0_1, .slice A0_2 l0_2.length c0_2] 48 (0, 0))) := ⟨by rw [← hq_]; exact (tK BK158)⟩; have n5_ : Aside0 (w44.heap[gb173]? = some (.cells #[.int .i64 t168, .int .i64 t169, .slice Ao43 t170.length co43] 53 (0, 0))) := ⟨by rw [← hq_]; exact (tK BK173)⟩; have n6_ : Aside0 (Below w.heap.size w w44) := ⟨by rw [← hq_]; exact tB⟩; clear HO164 HO167 HO172 HO176 BK158 BK173 HB hq_; have HO164 := n0_; have HO167 := n1_; have HO172 := n2_; have HO176 := n3_; have BK158 := n4_; have BK173 := n5_; have HB := n6_; clear n0_ n1_ n2_ n3_ n4_ n5_ n6_))
                      have n0_ := Aside0.mk (Kd.R_drew HO164.out)
                      have n1_ := Aside0.mk (Kd.R_drew HO167.out)
                      have n2_ := Aside0.mk (Kd.R_drew HO172.out)
                      have n3_ := Aside0.mk (Kd.R_drew HO176.out)
                      have n4_ := Aside0.mk (blk_drew BK158.out)
                      have n5_ := Aside0.mk (blk_drew BK173.out)
                      have n6_ := Aside0.mk (below_drew1 HB.out)
                      clear HO164
                      clear HO167
                      clear HO172
                      clear HO176
                      clear BK158
                      clear BK173
                      clear HB
                      have HO164 := n0_
                      have HO167 := n1_
                      have HO172 := n2_
                      have HO176 := n3_
                      have BK158 := n4_
                      have BK173 := n5_
                      have HB := n6_
                      clear n0_ n1_ n2_ n3_ n4_ n5_ n6_
                      refine start_ (n := 5) (S := fun w' => w'.cell? ⟨gb173, 0, none⟩ = some (.int .i64 t168) ∧ w'.cell? ⟨gb173, 1, none⟩ = some (.int .i64 t169) ∧ w'.cell? ⟨gb173, 2, none⟩ = some (.slice Ao43 t170.length co43) ∧ w'.cell? ⟨gb158, 0, none⟩ = some (.int .i64 a0_0) ∧ w'.cell? ⟨gb158, 1, none⟩ = some (.int .i64 a0_1) ∧ w'.cell? ⟨gb158, 2, none⟩ = some (.slice A0_2 l0_2.length c0_2)) (ds := []) #[false, false, false, false, false] (by kernel_rfl) rfl rfl ⟨(blk_cell BK173.out 0).trans rfl, (blk_cell BK173.out 1).trans rfl, (blk_cell BK173.out 2).trans rfl, (blk_cell BK158.out 0).trans rfl, (blk_cell BK158.out 1).trans rfl, (blk_cell BK158.out 2).trans rfl⟩ (fun hHeld => ?_)
                      generalize w44.drew = w47 at HO164 HO167 HO172 HO176 BK158 BK173 HB hHeld ⊢
                      refine take_ (i := 0) (N := some 27) (v := ?_) (a' := ?_) #[true, false, false, false, false] rfl rfl (by kernel_rfl) (fun _ _ _ h => h) (Or.inl ⟨by rfl, ?_⟩) hHeld ?_ ?_
                      rotate_left
                      · rintro w' ⟨s0, s1, s2, s3, s4, s5⟩
                        go_simp
                        with_reducible rfl
                      rotate_left
                      · simp only [Act.put, List.setIfInBounds_toArray, List.set_cons_zero, List.set_cons_succ, i64_w, i32_w]
                        rfl
                      refine take_ (i := 1) (N := some 28) (v := ?_) (a' := ?_) #[true, true, false, false, false] rfl rfl (by kernel_rfl) (fun _ _ _ h => h) (Or.inl ⟨by rfl, ?_⟩) hHeld ?_ ?_
                      rotate_left
                      · rintro w' ⟨s0, s1, s2, s3, s4, s5⟩
                        go_simp
                        with_reducible rfl
                      rotate_left
                      · simp only [Act.put, List.setIfInBounds_toArray, List.set_cons_zero, List.set_cons_succ, i64_w, i32_w]
                        rfl
                      refine one_ (i := 2) (N := some 29) #[true, true, true, false, false] rfl rfl (by kernel_rfl) (by decide) (fun K hK => ?_)
                      refine goes_ Try.func32 (by kernel_rfl) rfl #[.agg #[.int .i64 a0_0, .int .i64 a0_1, .slice A0_2 l0_2.length c0_2]] (by rfl) rfl rfl tL ?_
                      with_reducible refine (laws_toAccount.calls k a0_0 a0_1 _ _ l0_2 t178 t179 t180 _ ?side1 ?side2 A13.out).mono ?_
                      (case side1 => repeat (first | exact (Kd.C_below HR0_2.out HB.out) | (with_reducible refine Kd.C_alloc ?_ _) | (with_reducible refine Kd.C_drewN ?_ _) | (with_reducible refine Kd.C_drew ?_)))
                      (case side2 => exact HC0_2.out)
                      rintro e w48 ⟨v181, rfl, ho0, hb⟩
                      refine ⟨_, rfl, ?_⟩
                      have n0_ := Aside0.mk (Kd.R_elder' (tR HO164) (Kd.R_base ho0) hb)
                      have n1_ := Aside0.mk (Kd.R_below (tR HO167) hb)
                      have n2_ := Aside0.mk (Kd.R_elder' (tR HO172) (Kd.R_base ho0) hb)
                      have n3_ := Aside0.mk (Kd.R_below (tR HO176) hb)
                      have n4_ := Aside0.mk (Kd.R_lower (Kd.R_new' (Kd.R_new' ho0 (Kd.R_lt (tR HO164))) (Kd.R_lt (tR HO172))) (below_size tB))
                      have n5_ := Aside0.mk (blk_below (g := gb158) (o := .cells #[.int .i64 a0_0, .int .i64 a0_1, .slice A0_2 l0_2.length c0_2] 48 (0, 0)) (tK BK158) hb)
                      have n6_ := Aside0.mk (blk_below (g := gb173) (o := .cells #[.int .i64 t168, .int .i64 t169, .slice Ao43 t170.length co43] 53 (0, 0)) (tK BK173) hb)
                      have n7_ := Aside0.mk (below_step tB hb)
                      clear HO164
                      clear HO167
                      clear HO172
                      clear HO176
                      clear BK158
                      clear BK173
                      clear HB
                      have HO164 := n0_
                      have HO167 := n1_
                      have HO172 := n2_
                      have HO176 := n3_
                      have HO182 := n4_
                      have BK158 := n5_
                      have BK173 := n6_
                      have HB := n7_
                      clear n0_ n1_ n2_ n3_ n4_ n5_ n6_ n7_
                      (try clear hb)
                      (try clear hb2)
                      (try clear hk)
                      (try clear hi)
                      (try clear ho0)
                      obtain ⟨Ao49, co49, eo49⟩ := Kd.R_slice HO182.out
                      (first | subst eo49 | (injection eo49 with f1_ f2_ f3_; have f4_ := f1_.symm; have f5_ := f3_.symm; clear f1_ f2_ f3_; subst f4_; subst f5_))
                      refine hK.out _ _ ⟨(blk_cell BK173.out 0).trans rfl, (blk_cell BK173.out 1).trans rfl, (blk_cell BK173.out 2).trans rfl, (blk_cell BK158.out 0).trans rfl, (blk_cell BK158.out 1).trans rfl, (blk_cell BK158.out 2).trans rfl⟩ (fun hHeld => ?_)
                      clear hK K
                      refine norm_ (a' := ?_) ?_ ?_
                      rotate_left
                      · show Act.put _ (some 29) _ = _
                        simp only [Act.put, List.setIfInBounds_toArray, List.set_cons_zero, List.set_cons_succ, i64_w, i32_w]
                        rfl
                      refine one_ (i := 3) (N := some 30) #[true, true, true, true, false] rfl rfl (by kernel_rfl) (by decide) (fun K hK => ?_)
                      refine goes_ Try.func35 (by kernel_rfl) rfl #[.agg #[.int .i64 t168, .int .i64 t169, .slice Ao43 t170.length co43], .agg #[.int .i64 t178, .int .i64 t179, .slice Ao49 t180.length co49]] (by rfl) rfl rfl tL ?_
                      with_reducible refine (laws_eqAccount.calls k t168 t169 _ _ t170 t178 t179 _ _ t180 true _ ?side1 ?side2 ?side3 ?side4 A14.out).mono ?_
                      (case side1 => repeat (first | exact (Kd.R_reads' HO172.out).2.2 | (with_reducible refine Kd.C_alloc ?_ _) | (with_reducible refine Kd.C_drewN ?_ _) | (with_reducible refine Kd.C_drew ?_)))
                      (case side2 => exact (Kd.R_reads' HO172.out).2.1)
                      (case side3 => repeat (first | exact (Kd.R_reads' HO182.out).2.2 | (with_reducible refine Kd.C_alloc ?_ _) | (with_reducible refine Kd.C_drewN ?_ _) | (with_reducible refine Kd.C_drew ?_)))
                      (case side4 => exact (Kd.R_reads' HO182.out).2.1)
                      rintro e w50 ⟨rfl, hb⟩
                      refine ⟨_, rfl, ?_⟩
                      have n0_ := Aside0.mk (Kd.R_below (tR HO164) hb)
                      have n1_ := Aside0.mk (Kd.R_below (tR HO167) hb)
                      have n2_ := Aside0.mk (Kd.R_below (tR HO172) hb)
                      have n3_ := Aside0.mk (Kd.R_below (tR HO176) hb)
                      have n4_ := Aside0.mk (Kd.R_below (tR HO182) hb)
                      have n5_ := Aside0.mk (blk_below (g := gb158) (o := .cells #[.int .i64 a0_0, .int .i64 a0_1, .slice A0_2 l0_2.length c0_2] 48 (0, 0)) (tK BK158) hb)
                      have n6_ := Aside0.mk (blk_below (g := gb173) (o := .cells #[.int .i64 t168, .int .i64 t169, .slice Ao43 t170.length co43] 53 (0, 0)) (tK BK173) hb)
                      have n7_ := Aside0.mk (below_step tB hb)
                      clear HO164
                      clear HO167
                      clear HO172
                      clear HO176
                      clear HO182
                      clear BK158
                      clear BK173
                      clear HB
                      have HO164 := n0_
                      have HO167 := n1_
                      have HO172 := n2_
                      have HO176 := n3_
                      have HO182 := n4_
                      have BK158 := n5_
                      have BK173 := n6_
                      have HB := n7_
                      clear n0_ n1_ n2_ n3_ n4_ n5_ n6_ n7_
                      (try clear hb)
                      (try clear hb2)
                      (try clear hk)
                      (try clear hi)
                      refine hK.out _ _ ⟨(blk_cell BK173.out 0).trans rfl, (blk_cell BK173.out 1).trans rfl, (blk_cell BK173.out 2).trans rfl, (blk_cell BK158.out 0).trans rfl, (blk_cell BK158.out 1).trans rfl, (blk_cell BK158.out 2).trans rfl⟩ (fun hHeld => ?_)
                      clear hK K
                      refine norm_ (a' := ?_) ?_ ?_
                      rotate_left
                      · show Act.put _ (some 30) _ = _
                        simp only [Act.put, List.setIfInBounds_toArray, List.set_cons_zero, List.set_cons_succ, i64_w, i32_w]
                        rfl
                      refine pure_ (i := 4) (N := some 31) (v := ?_) (a' := ?_) #[true, true, true, true, true] rfl rfl (by kernel_rfl) (fun _ _ _ h => h) (Or.inl ⟨by rfl, ?_⟩) ?_ ?_
                      rotate_left
                      · intro w'
                        go_simp
                        with_reducible rfl
                      rotate_left
                      · simp only [Act.put, List.setIfInBounds_toArray, List.set_cons_zero, List.set_cons_succ, i64_w, i32_w]
                        rfl
                      refine done_ (by kernel_rfl) ?_
                      obtain ⟨hcz51_0, hcz51_1, hcz51_2, hfz51_0, hfz51_1, hfz51_2⟩ := bc3 BK173.out
                      try go_wp2_with (first | ((with_reducible refine gate_callee (f := 36) rfl ?_); refine goesL_ (some 34) rfl rfl Try.func36 (by kernel_rfl) rfl #[.agg #[.int .i64 t168, .int .i64 t169, .slice Ao43 t170.length co43], .int .i64 1] rfl tL ?_; (with_reducible refine (laws_markAccount.calls k t168 t169 (fun k_ => some k_ = (.slice Ao43 t170.length co43 : Value).ownBlock) (.slice Ao43 t170.length co43) t170 1 t184 t185 w _ ?side1 ?side2 A16.out).mono ?_); (case side1 => exact tB); (case side2 => exact Kd.R_tight rfl HO172.out); rintro e w52 ⟨rfl, hy0, hb, hkp⟩; refine ⟨_, rfl, ?_⟩; have n0_ := Aside0.mk (blk_kept (tK BK158) hkp (fun hs_ => (fun e_ => (Kd.R_ne HO172.out BK158.out (by decide)) e_) hs_)); have n1_ := Aside0.mk (Kd.R_mono (ok' := fun k_ => some k_ ≠ (.slice Ao43 t170.length co43 : Value).ownBlock ∧ some k_ ≠ (.slice Ao49 t180.length co49 : Value).ownBlock) (Kd.R_keptB (HO164.out) hkp tN) tP); have n2_ := Aside0.mk (Kd.R_mono (ok' := fun k_ => some k_ ≠ (.slice Ao45 t174.length co45 : Value).ownBlock) (Kd.R_keptB ((Kd.R_apart' HO167.out (Kd.R_typed HO172.out) (by decide))) hkp tN) tP); have n3_ := Aside0.mk (Kd.R_reok rfl hy0 (fun k_ e_ => HO172.out.1 k_ e_)); have n4_ := Aside0.mk (blk_kept (tK BK173) hkp (fun hs_ => (fun e_ => (Kd.R_ne HO172.out BK173.out (by decide)) e_) hs_)); have n5_ := Aside0.mk (Kd.R_mono (ok' := fun k_ => some k_ ≠ (.slice Ao46 t165.length co46 : Value).ownBlock) (Kd.R_keptB ((Kd.R_apart' HO176.out (Kd.R_typed HO172.out) (by decide))) hkp tN) tP); have n6_ := Aside0.mk (Kd.R_mono (ok' := fun k_ => some k_ ≠ (.slice Ao36 t162.length co36 : Value).ownBlock ∧ some k_ ≠ (.slice Ao43 t170.length co43 : Value).ownBlock) (Kd.R_keptB (HO182.out) hkp tN) tP); have n7_ := Aside0.mk (hb); clear BK158; clear HO164; clear HO167; clear HO172; clear BK173; clear HO176; clear HO182; clear HB; have BK158 := n0_; have HO164 := n1_; have HO167 := n2_; have HO172 := n3_; have BK173 := n4_; have HO176 := n5_; have HO182 := n6_; have HB := n7_; clear n0_ n1_ n2_ n3_ n4_ n5_ n6_ n7_; (try clear hb); (try clear hkp); (try clear hy0)) | (go_at_call 34; (with_reducible refine (laws_eqIntS.calls k _ _ t174 _ _ t165 true _ ?side1 ?side2 ?side3 ?side4 A18.out).mono ?_); (case side1 => repeat (first | exact (Kd.R_reads' HO176.out).2.2 | (with_reducible refine Kd.C_alloc ?_ _) | (with_reducible refine Kd.C_drewN ?_ _) | (with_reducible refine Kd.C_drew ?_))); (case side2 => exact (Kd.R_reads' HO176.out).2.1); (case side3 => repeat (first | exact (Kd.R_reads' HO167.out).2.2 | (with_reducible refine Kd.C_alloc ?_ _) | (with_reducible refine Kd.C_drewN ?_ _) | (with_reducible refine Kd.C_drew ?_))); (case side4 => exact (Kd.R_reads' HO167.out).2.1); rintro e w' ⟨rfl, ⟨nd, rfl⟩⟩) | ((with_reducible refine gate_callee (f := 37) rfl ?_); refine goesL_ (some 45) rfl rfl Try.func37 (by kernel_rfl) rfl #[.slice Ao45 t174.length co45, .int .i64 1] rfl tL ?_; (with_reducible refine (laws_markIntS.calls k (fun k_ => some k_ = (.slice Ao45 t174.length co45 : Value).ownBlock) (.slice Ao45 t174.length co45) t174 1 t187 t188 w _ ?side1 ?side2 A20.out).mono ?_); (case side1 => exact tB); (case side2 => exact Kd.R_tight rfl HO176.out); rintro e w53 ⟨rfl, hy0, hb, hkp⟩; refine ⟨_, rfl, ?_⟩; have n0_ := Aside0.mk (blk_kept (tK BK158) hkp (fun hs_ => (fun e_ => (Kd.R_ne HO176.out BK158.out (by decide)) e_) hs_)); have n1_ := Aside0.mk (Kd.R_mono (ok' := fun k_ => some k_ ≠ (.slice Ao43 t170.length co43 : Value).ownBlock ∧ some k_ ≠ (.slice Ao49 t180.length co49 : Value).ownBlock) (Kd.R_keptB ((Kd.R_apart' HO164.out (Kd.R_typed HO176.out) (by decide))) hkp tN) tP); have n2_ := Aside0.mk (Kd.R_mono (ok' := fun k_ => some k_ ≠ (.slice Ao45 t174.length co45 : Value).ownBlock) (Kd.R_keptB (HO167.out) hkp tN) tP); have n3_ := Aside0.mk (Kd.R_mono (ok' := fun k_ => some k_ ≠ (.slice Ao36 t162.length co36 : Value).ownBlock ∧ some k_ ≠ (.slice Ao49 t180.length co49 : Value).ownBlock) (Kd.R_keptB ((Kd.R_apart' HO172.out (Kd.R_typed HO176.out) (by decide))) hkp tN) tP); have n4_ := Aside0.mk (blk_kept (tK BK173) hkp (fun hs_ => (fun e_ => (Kd.R_ne HO176.out BK173.out (by decide)) e_) hs_)); have n5_ := Aside0.mk (Kd.R_reok rfl hy0 (fun k_ e_ => HO176.out.1 k_ e_)); have n6_ := Aside0.mk (Kd.R_mono (ok' := fun k_ => some k_ ≠ (.slice Ao36 t162.length co36 : Value).ownBlock ∧ some k_ ≠ (.slice Ao43 t170.length co43 : Value).ownBlock) (Kd.R_keptB ((Kd.R_apart' HO182.out (Kd.R_typed HO176.out) (by decide))) hkp tN) tP); have n7_ := Aside0.mk (hb); clear BK158; clear HO164; clear HO167; clear HO172; clear BK173; clear HO176; clear HO182; clear HB; have BK158 := n0_; have HO164 := n1_; have HO167 := n2_; have HO172 := n3_; have BK173 := n4_; have HO176 := n5_; have HO182 := n6_; have HB := n7_; clear n0_ n1_ n2_ n3_ n4_ n5_ n6_ n7_; (try clear hb); (try clear hkp); (try clear hy0)) | ((with_reducible refine gate_callee (f := 38) rfl ?_); refine goesL_ (some 48) rfl rfl Try.func38 (by kernel_rfl) rfl #[.slice Ao45 t188.length co45, .int .i64 1] rfl (by (try simp only [List.map_toArray, List.map_cons, List.map_nil]); first | done | (rw [show t188.length = t174.length from (Kd.R_reads' HO176.out).1.symm] <;> rfl) | rfl | (simp only [List.length_drop, List.length_take]; rfl)) ?_; (with_reducible refine (laws_heldIntS.calls k _ _ t188 1 t189 _ ?side1 ?side2 A21.out).mono ?_); (case side1 => repeat (first | exact (Kd.R_reads' HO176.out).2.2 | (with_reducible refine Kd.C_alloc ?_ _) | (with_reducible refine Kd.C_drewN ?_ _) | (with_reducible refine Kd.C_drew ?_))); (case side2 => rw [show t188.length = t174.length from (Kd.R_reads' HO176.out).1.symm]; exact (Kd.R_reads' HO176.out).2.1); rintro e w' ⟨rfl, ⟨nd, rfl⟩⟩; refine ⟨_, rfl, ?_⟩; obtain ⟨hcz54_0, hcz54_1, hcz54_2, hfz54_0, hfz54_1, hfz54_2⟩ := bc3 BK158.out) | ((with_reducible refine gate_callee (f := 32) rfl ?_); refine goesL_ (some 55) rfl rfl Try.func32 (by kernel_rfl) rfl #[.agg #[.int .i64 a0_0, .int .i64 a0_1, .slice A0_2 l0_2.length c0_2]] rfl tL ?_; (with_reducible refine (laws_toAccount.calls k a0_0 a0_1 _ _ l0_2 t190 t191 t192 _ ?side1 ?side2 A24.out).mono ?_); (case side1 => repeat (first | exact (Kd.C_below HR0_2.out tB) | (with_reducible refine Kd.C_alloc ?_ _) | (with_reducible refine Kd.C_drewN ?_ _) | (with_reducible refine Kd.C_drew ?_))); (case side2 => exact HC0_2.out); rintro e w55 ⟨v193, rfl, ho0, hb⟩; refine ⟨_, rfl, ?_⟩; have n0_ := Aside0.mk (Kd.R_elder' (tR HO164) (Kd.R_base ho0) hb); have n1_ := Aside0.mk (Kd.R_below (tR HO167) hb); have n2_ := Aside0.mk (Kd.R_elder' (tR HO172) (Kd.R_base ho0) hb); have n3_ := Aside0.mk (Kd.R_below (tR HO176) hb); have n4_ := Aside0.mk (Kd.R_elder' (tR HO182) (Kd.R_base ho0) hb); have n5_ := Aside0.mk (Kd.R_lower (Kd.R_new' (Kd.R_new' (Kd.R_new' ho0 (Kd.R_lt (tR HO164))) (Kd.R_lt (tR HO172))) (Kd.R_lt (tR HO182))) (below_size tB)); have n6_ := Aside0.mk (blk_below (g := gb158) (o := .cells #[.int .i64 a0_0, .int .i64 a0_1, .slice A0_2 l0_2.length c0_2] 48 (0, 0)) (tK BK158) hb); have n7_ := Aside0.mk (blk_below (g := gb173) (o := .cells #[.int .i64 t168, .int .i64 t169, .slice Ao43 t170.length co43] 53 (0, 0)) (tK BK173) hb); have n8_ := Aside0.mk (below_step tB hb); clear HO164; clear HO167; clear HO172; clear HO176; clear HO182; clear BK158; clear BK173; clear HB; have HO164 := n0_; have HO167 := n1_; have HO172 := n2_; have HO176 := n3_; have HO182 := n4_; have HO194 := n5_; have BK158 := n6_; have BK173 := n7_; have HB := n8_; clear n0_ n1_ n2_ n3_ n4_ n5_ n6_ n7_ n8_; (try clear hb); (try clear hb2); (try clear hk); (try clear hi); (try clear ho0); obtain ⟨Ao56, co56, eo56⟩ := Kd.R_slice HO194.out; subst eo56) | ((with_reducible refine gate_callee (f := 33) rfl ?_); refine goesL_ (some 56) rfl rfl Try.func33 (by kernel_rfl) rfl #[.agg #[.int .i64 t190, .int .i64 t191, .slice Ao56 t192.length co56]] rfl tL ?_; (with_reducible refine (impl_KeysOf.calls k t190 t191 _ _ t192 t195 _ ?side1 ?side2 A25.out).mono ?_); (case side1 => repeat (first | exact (Kd.R_reads' HO194.out).2.2 | (with_reducible refine Kd.C_alloc ?_ _) | (with_reducible refine Kd.C_drewN ?_ _) | (with_reducible refine Kd.C_drew ?_))); (case side2 => exact (Kd.R_reads' HO194.out).2.1); rintro e w57 ⟨v196, rfl, ho0, hb⟩; refine ⟨_, rfl, ?_⟩; have n0_ := Aside0.mk (Kd.R_below (tR HO164) hb); have n1_ := Aside0.mk (Kd.R_elder' (tR HO167) (Kd.R_base ho0) hb); have n2_ := Aside0.mk (Kd.R_below (tR HO172) hb); have n3_ := Aside0.mk (Kd.R_elder' (tR HO176) (Kd.R_base ho0) hb); have n4_ := Aside0.mk (Kd.R_below (tR HO182) hb); have n5_ := Aside0.mk (Kd.R_below (tR HO194) hb); have n6_ := Aside0.mk (Kd.R_lower (Kd.R_new' (Kd.R_new' ho0 (Kd.R_lt (tR HO167))) (Kd.R_lt (tR HO176))) (below_size tB)); have n7_ := Aside0.mk (blk_below (g := gb158) (o := .cells #[.int .i64 a0_0, .int .i64 a0_1, .slice A0_2 l0_2.length c0_2] 48 (0, 0)) (tK BK158) hb); have n8_ := Aside0.mk (blk_below (g := gb173) (o := .cells #[.int .i64 t168, .int .i64 t169, .slice Ao43 t170.length co43] 53 (0, 0)) (tK BK173) hb); have n9_ := Aside0.mk (below_step tB hb); clear HO164; clear HO167; clear HO172; clear HO176; clear HO182; clear HO194; clear BK158; clear BK173; clear HB; have HO164 := n0_; have HO167 := n1_; have HO172 := n2_; have HO176 := n3_; have HO182 := n4_; have HO194 := n5_; have HO197 := n6_; have BK158 := n7_; have BK173 := n8_; have HB := n9_; clear n0_ n1_ n2_ n3_ n4_ n5_ n6_ n7_ n8_ n9_; (try clear hb); (try clear hb2); (try clear hk); (try clear hi); (try clear ho0); obtain ⟨Ao58, co58, eo58⟩ := Kd.R_slice HO197.out; subst eo58) | ((with_reducible refine gate_callee (f := 34) rfl ?_); refine goesL_ (some 59) rfl rfl Try.func34 (by kernel_rfl) rfl #[.slice Ao58 t195.length co58, .slice Ao46 t165.length co46] rfl tL ?_; (with_reducible refine (laws_eqIntS.calls k _ _ t195 _ _ t165 true _ ?side1 ?side2 ?side3 ?side4 A26.out).mono ?_); (case side1 => repeat (first | exact (Kd.R_reads' HO197.out).2.2 | (with_reducible refine Kd.C_alloc ?_ _) | (with_reducible refine Kd.C_drewN ?_ _) | (with_reducible refine Kd.C_drew ?_))); (case side2 => exact (Kd.R_reads' HO197.out).2.1); (case side3 => repeat (first | exact (Kd.R_reads' HO167.out).2.2 | (with_reducible refine Kd.C_alloc ?_ _) | (with_reducible refine Kd.C_drewN ?_ _) | (with_reducible refine Kd.C_drew ?_))); (case side4 => exact (Kd.R_reads' HO167.out).2.1); rintro e w' ⟨rfl, ⟨nd, rfl⟩⟩; refine ⟨_, rfl, ?_⟩) | ((with_reducible refine gate_callee (f := 38) rfl ?_); refine goesL_ (some 63) rfl rfl Try.func38 (by kernel_rfl) rfl #[.slice Ao45 t188.length co45, .int .i64 1] rfl (by (try simp only [List.map_toArray, List.map_cons, List.map_nil]); first | done | (rw [show t188.length = t174.length from (Kd.R_reads' HO176.out).1.symm] <;> rfl) | rfl | (simp only [List.length_drop, List.length_take]; rfl)) ?_; (with_reducible refine (laws_heldIntS.calls k _ _ t188 1 t199 _ ?side1 ?side2 A28.out).mono ?_); (case side1 => repeat (first | exact (Kd.R_reads' HO176.out).2.2 | (with_reducible refine Kd.C_alloc ?_ _) | (with_reducible refine Kd.C_drewN ?_ _) | (with_reducible refine Kd.C_drew ?_))); (case side2 => rw [show t188.length = t174.length from (Kd.R_reads' HO176.out).1.symm]; exact (Kd.R_reads' HO176.out).2.1); rintro e w' ⟨rfl, ⟨nd, rfl⟩⟩; refine ⟨_, rfl, ?_⟩))
                      go_ret
                      exact ⟨tE, tB⟩
                    · rw [if_neg c30] at H
                      have c30b0 : (t199 == t187) = false := beq_eq_false_iff_ne.mpr c30
                      have c30b1 : (t199 != t187) = true := bne_iff_ne.mpr c30
                      exact absurd ((Option.some.inj H).trans hT_) (by decide)
                · replace c27 := Bool.eq_false_iff.mpr c27
                  subst c27
                  have H1 : (some false) = some r := by rw [if_neg (show ¬ (false = true) by decide)] at H; exact H
                  clear H
                  have H := H1
                  clear H1
                  exact absurd ((Option.some.inj H).trans hT_) (by decide)
              · rw [if_neg c23] at H
                have c23b0 : (t189 == t187) = false := beq_eq_false_iff_ne.mpr c23
                have c23b1 : (t189 != t187) = true := bne_iff_ne.mpr c23
                exact absurd ((Option.some.inj H).trans hT_) (by decide)
          · replace c19 := Bool.eq_false_iff.mpr c19
            subst c19
            have H1 : (some false) = some r := by rw [if_neg (show ¬ (false = true) by decide)] at H; exact H
            clear H
            have H := H1
            clear H1
            exact absurd ((Option.some.inj H).trans hT_) (by decide)
      · replace c15 := Bool.eq_false_iff.mpr c15
        subst c15
        have H1 : (some false) = some r := by rw [if_neg (show ¬ (false = true) by decide)] at H; exact H
        clear H
        have H := H1
        clear H1
        exact absurd ((Option.some.inj H).trans hT_) (by decide)
    · replace c12 := Bool.eq_false_iff.mpr c12
      subst c12
      have H1 : (some false) = some r := by rw [if_neg (show ¬ (false = true) by decide)] at H; exact H
      clear H
      have H := H1
      clear H1
      exact absurd ((Option.some.inj H).trans hT_) (by decide)

end Go.Proofs.Ytanoaneoanpkkaa.ZFnExactKeysOf
