/- The machine side: for each Go function a Lean function and the contract that the Go code answers as it does; printed by program (wip/tmpl/pprint.sh). -/
import Derived.Test.YtanoaneoanpkkaaZFnExactOpenClaimsx0
import Derived.Test.YtanoaneoanpkkaaZFnExactOpenClaimsx1
import Derived.Test.YtanoaneoanpkkaaZFnExactOpenClaimsx2
namespace Go.Proofs.Ytanoaneoanpkkaa.ZFnExactOpenClaims
open Go.RowKit Go.Proofs.YtanoaneoanpkkaaW.PrintWords Go.Proofs.YtanoaneoanpkkaaW.PrintLast Go.Proofs.YtanoaneoanpkkaaW.PrintMore
attribute [local go_sem] max2_int min2_int max_two min_two max_three min_three max_four min_four   -- for this text's walks alone
set_option linter.unusedVariables false
set_option linter.unusedSimpArgs false

/-! ### laws_markClaimList: function 54 -/
def laws_markClaimList.f (k : Nat) (a0_0 : Int) (l0_1 : List (S134)) (a1 : Int) : Option (Int × (List (S134))) := (laws_markClaimS.f k l0_1 a1).bind fun bt161 => (some (bt161.1, bt161.2))
theorem laws_markClaimList.mono : ∀ a0 a1 a2 k, LeO (laws_markClaimList.f k a0 a1 a2) (laws_markClaimList.f (k + 1) a0 a1 a2) := by
  intro a0 a1 a2 k
  unfold laws_markClaimList.f
  repeat' first
      | (with_reducible exact laws_markClaimS.mono _ _ _)
      | (with_reducible exact LeO.refl _)
      | (with_reducible exact LeO.none _)
      | (with_reducible refine LeO.ite ?_ ?_)
      | (with_reducible refine LeO.bind ?_ (fun _ => ?_))
      | exact laws_markClaimS.mono _ _ _
      | exact LeO.none _
      | refine LeO.ite ?_ ?_
      | refine LeO.bind ?_ (fun _ => ?_)
set_option maxHeartbeats 8000000 in
set_option maxRecDepth 100000 in
theorem laws_markClaimList.calls (k : Nat) (a0_0 : Int) (P0_1_ : Nat → Prop) (u9000_ : Value) (l0_1 : List (S134)) (a1 : Int) (r1 : Int) (r2 : List (S134)) (w0 w : World) (hB : Below w0.heap.size w0 w) (ho0_1 : Kd.R k134 134 w w0.heap.size P0_1_ u9000_ l0_1) (h : laws_markClaimList.f k a0_0 l0_1 a1 = some (r1, r2)) :
    Calls Try.prog 54 #[.agg #[.int .i64 a0_0, u9000_], .int .i64 a1] w fun e w' => e = .returned (.int .i64 r1) ∧ Kd.R k134 134 w' w0.heap.size (fun k_ => (P0_1_ k_ ∨ w.heap.size ≤ k_)) u9000_ r2 ∧ Below w0.heap.size w0 w' ∧ Kept w w' (fun k_ => P0_1_ k_) := by
  have hu81 := Try.underlying81
  have HO0_1 := Aside0.mk (show Kd.R k134 134 w w0.heap.size (fun k_ => (P0_1_ k_ ∨ w.heap.size ≤ k_)) u9000_ l0_1 from Kd.R_mono ho0_1 (fun k_ hk => (.inl hk)))
  have HK := Aside0.mk (Kept.refl w (fun k_ => P0_1_ k_))
  have HW0 := Aside0.mk hB.size
  have HB := Aside0.mk hB
  clear hB
  have H : ((laws_markClaimS.f k l0_1 a1).bind fun bt161 => (some (bt161.1, bt161.2))) = some (r1, r2) := h
  clear h
  replace H := Option.bind_eq_some_iff.mp H
  obtain ⟨⟨t161, t162⟩, A30, H⟩ := H
  replace H : (some (t161, t162)) = some (r1, r2) := H
  have A3 := Aside0.mk A30
  clear A30
  simp only [Option.some.injEq, Prod.mk.injEq] at H
  obtain ⟨rfl, rfl⟩ := H
  obtain ⟨Ao4, co4, eo4⟩ := Kd.R_slice HO0_1.out
  subst eo4
  go_enter Try.func54, Try.ntmps54
  go_wp2_with (first | ((with_reducible refine gate_dst (N := 2) rfl ?_); refine box_event ?hg (N := 2) ?hd (cs := #[.int .i64 a0_0, .slice Ao4 l0_1.length co4]) (t := 81) ?hr ?_; (case hd => rfl); (case hg => rfl); (case hr => exact tG); intro gb160 hg w5 hbox hb; have n0_ := Aside0.mk (Kd.R_below (tR HO0_1) hb); have n1_ := Aside0.mk (Kept.below (S := (fun k_ => P0_1_ k_)) (by repeat (first | (with_reducible first | exact HK.out | apply Kept.alloc | apply Kept.drewN | apply Kept.drew) | exact HK.out)) hb); have n2_ := Aside0.mk (below_step tB hb); have n3_ := Aside0.mk (hbox); have n4_ := Aside0.mk ((by rw [hg]; exact (by first | exact HK.out.1 | exact (show Kept w _ (fun k_ => P0_1_ k_) from by repeat (first | (with_reducible first | exact HK.out | apply Kept.alloc | apply Kept.drewN | apply Kept.drew) | exact HK.out)).1) : w.heap.size ≤ gb160)); have n5_ := Aside0.mk ((by rw [hg]; exact (below_size tB) : w0.heap.size ≤ gb160)); clear HO0_1; clear HK; clear HB; have HO0_1 := n0_; have HK := n1_; have HB := n2_; have BK160 := n3_; have GW160 := n4_; have GE160 := n5_; clear n0_ n1_ n2_ n3_ n4_ n5_; clear hb hbox hg; obtain ⟨hcz6_0, hcz6_1, hfz6_0, hfz6_1⟩ := bc2 BK160.out) | ((with_reducible refine gate_callee (f := 100) rfl ?_); refine goesL_ (some 8) rfl rfl Try.func100 (by kernel_rfl) rfl #[.slice Ao4 l0_1.length co4, .int .i64 a1] rfl tL ?_; (with_reducible refine (laws_markClaimS.calls k (fun k_ => some k_ = (.slice Ao4 l0_1.length co4 : Value).ownBlock) (.slice Ao4 l0_1.length co4) l0_1 a1 t161 t162 w0 _ ?side1 ?side2 A3.out).mono ?_); (case side1 => exact tB); (case side2 => exact Kd.R_tight rfl HO0_1.out); rintro e w7 ⟨rfl, hy0, hb, hkp⟩; refine ⟨_, rfl, ?_⟩; have n0_ := Aside0.mk (Kd.R_reok rfl hy0 (fun k_ e_ => HO0_1.out.1 k_ e_)); have n1_ := Aside0.mk (blk_kept (tK BK160) hkp (fun hs_ => (fun e_ => (Kd.R_ne HO0_1.out BK160.out (by decide)) e_) hs_)); have n2_ := Aside0.mk (Kept.then_ (S := (fun k_ => P0_1_ k_)) (by repeat (first | (with_reducible first | exact HK.out | apply Kept.alloc | apply Kept.drewN | apply Kept.drew | refine Kept.setCell ?_ (.inr GW160.out) _) | exact HK.out)) hkp (fun k_ hs_ => (fun e_ => (HO0_1.out.1 k_ e_.symm)) hs_)); have n3_ := Aside0.mk (hb); clear HO0_1; clear BK160; clear HK; clear HB; have HO0_1 := n0_; have BK160 := n1_; have HK := n2_; have HB := n3_; clear n0_ n1_ n2_ n3_; (try clear hb); (try clear hkp); (try clear hy0)))
  go_ret
  exact ⟨tE, tR HO0_1, tB, by repeat (first | (with_reducible first | exact HK.out | apply Kept.alloc | apply Kept.drewN | apply Kept.drew | refine Kept.setCell ?_ (.inr GW160.out) _) | exact HK.out)⟩

/-! ### laws_FnExactOpenClaims: function 8 -/
def laws_FnExactOpenClaims.f (k : Nat) (a0_0 : Int) (l0_1 : List (S155)) (a1 : Int) : Option (Bool) := (laws_szClaimList.f a0_0 l0_1 1048576).bind fun t164 => (if t164 < 0 then (some true) else ((laws_toClaimList.f k a0_0 l0_1).bind fun bt165 => ((spec_OpenClaims.f k bt165.1 bt165.2 a1).bind fun t169 => ((laws_toClaimList.f k a0_0 l0_1).bind fun bt172 => ((impl_OpenClaims.f k bt172.1 bt172.2 a1).bind fun t177 => ((laws_eqIntS.f k t177 t169).bind fun t180 => (if t180 = true then ((laws_toClaimList.f k a0_0 l0_1).bind fun bt181 => ((laws_eqClaimList.f k bt172.1 bt172.2 bt181.1 bt181.2).bind fun t185 => (if t185 = true then ((laws_markClaimList.f k bt172.1 bt172.2 1).bind fun bt186 => (if bt186.1 < 0 then (some false) else ((laws_eqIntS.f k t177 t169).bind fun t188 => (if t188 = true then ((laws_markIntS.f k t177 1).bind fun bt189 => ((laws_heldIntS.f k bt189.2 1).bind fun t191 => (if t191 < 0 then (some false) else (if t191 = bt189.1 then ((laws_toClaimList.f k a0_0 l0_1).bind fun bt192 => ((impl_OpenClaims.f k bt192.1 bt192.2 a1).bind fun t196 => ((laws_eqIntS.f k t196 t169).bind fun t199 => (if t199 = true then ((laws_heldIntS.f k bt189.2 1).bind fun t200 => (if t200 < 0 then (some false) else (if t200 = bt189.1 then (some true) else (some false)))) else (some false))))) else (some false))))) else (some false))))) else (some false)))) else (some false))))))))
theorem laws_FnExactOpenClaims.mono : ∀ a0 a1 a2 k, LeO (laws_FnExactOpenClaims.f k a0 a1 a2) (laws_FnExactOpenClaims.f (k + 1) a0 a1 a2) := by
  intro a0 a1 a2 k
  unfold laws_FnExactOpenClaims.f
  repeat' first
      | (with_reducible exact impl_OpenClaims.mono _ _ _ _)
      | (with_reducible exact laws_eqClaimList.mono _ _ _ _ _)
      | (with_reducible exact laws_eqIntS.mono _ _ _)
      | (with_reducible exact laws_heldIntS.mono _ _ _)
      | (with_reducible exact laws_markClaimList.mono _ _ _ _)
      | (with_reducible exact laws_markIntS.mono _ _ _)
      | (with_reducible exact laws_toClaimList.mono _ _ _)
      | (with_reducible exact spec_OpenClaims.mono _ _ _ _)
      | (with_reducible exact LeO.refl _)
      | (with_reducible exact LeO.none _)
      | (with_reducible refine LeO.ite ?_ ?_)
      | (with_reducible refine LeO.bind ?_ (fun _ => ?_))
      | exact impl_OpenClaims.mono _ _ _ _
      | exact laws_eqClaimList.mono _ _ _ _ _
      | exact laws_eqIntS.mono _ _ _
      | exact laws_heldIntS.mono _ _ _
      | exact laws_markClaimList.mono _ _ _ _
      | exact laws_markIntS.mono _ _ _
      | exact laws_toClaimList.mono _ _ _
      | exact spec_OpenClaims.mono _ _ _ _
      | exact LeO.none _
      | refine LeO.ite ?_ ?_
      | refine LeO.bind ?_ (fun _ => ?_)
set_option maxHeartbeats 8000000 in
set_option maxRecDepth 100000 in
theorem laws_FnExactOpenClaims.calls (k : Nat) (a0_0 : Int) (A0_1 : Option Addr) (c0_1 : Nat) (l0_1 : List (S155)) (a1 : Int) (r : Bool) (w : World) (hr0_1 : Kd.C k155 w A0_1 l0_1.length l0_1) (hc0_1 : l0_1.length ≤ c0_1) (hT_ : r = true) (h : laws_FnExactOpenClaims.f k a0_0 l0_1 a1 = some r) :
    Calls Try.prog 8 #[.agg #[.int .i64 a0_0, .slice A0_1 l0_1.length c0_1], .int .i64 a1] w fun e w' => e = .returned (.bool r) ∧ Below w.heap.size w w' := by
  have hu76 := Try.underlying76
  have hu81 := Try.underlying81
  have HR0_1 := Aside0.mk hr0_1
  have HC0_1 := Aside0.mk hc0_1
  clear hr0_1 hc0_1
  have HB := Aside0.mk (Below.refl w.heap.size w)
  have H : ((laws_szClaimList.f a0_0 l0_1 1048576).bind fun t164 => (if t164 < 0 then (some true) else ((laws_toClaimList.f k a0_0 l0_1).bind fun bt165 => ((spec_OpenClaims.f k bt165.1 bt165.2 a1).bind fun t169 => ((laws_toClaimList.f k a0_0 l0_1).bind fun bt172 => ((impl_OpenClaims.f k bt172.1 bt172.2 a1).bind fun t177 => ((laws_eqIntS.f k t177 t169).bind fun t180 => (if t180 = true then ((laws_toClaimList.f k a0_0 l0_1).bind fun bt181 => ((laws_eqClaimList.f k bt172.1 bt172.2 bt181.1 bt181.2).bind fun t185 => (if t185 = true then ((laws_markClaimList.f k bt172.1 bt172.2 1).bind fun bt186 => (if bt186.1 < 0 then (some false) else ((laws_eqIntS.f k t177 t169).bind fun t188 => (if t188 = true then ((laws_markIntS.f k t177 1).bind fun bt189 => ((laws_heldIntS.f k bt189.2 1).bind fun t191 => (if t191 < 0 then (some false) else (if t191 = bt189.1 then ((laws_toClaimList.f k a0_0 l0_1).bind fun bt192 => ((impl_OpenClaims.f k bt192.1 bt192.2 a1).bind fun t196 => ((laws_eqIntS.f k t196 t169).bind fun t199 => (if t199 = true then ((laws_heldIntS.f k bt189.2 1).bind fun t200 => (if t200 < 0 then (some false) else (if t200 = bt189.1 then (some true) else (some false)))) else (some false))))) else (some false))))) else (some false))))) else (some false)))) else (some false))))))))) = some r := h
  clear h
  replace H := Option.bind_eq_some_iff.mp H
  obtain ⟨t164, A30, H⟩ := H
  replace H : (if t164 < 0 then (some true) else ((laws_toClaimList.f k a0_0 l0_1).bind fun bt165 => ((spec_OpenClaims.f k bt165.1 bt165.2 a1).bind fun t169 => ((laws_toClaimList.f k a0_0 l0_1).bind fun bt172 => ((impl_OpenClaims.f k bt172.1 bt172.2 a1).bind fun t177 => ((laws_eqIntS.f k t177 t169).bind fun t180 => (if t180 = true then ((laws_toClaimList.f k a0_0 l0_1).bind fun bt181 => ((laws_eqClaimList.f k bt172.1 bt172.2 bt181.1 bt181.2).bind fun t185 => (if t185 = true then ((laws_markClaimList.f k bt172.1 bt172.2 1).bind fun bt186 => (if bt186.1 < 0 then (some false) else ((laws_eqIntS.f k t177 t169).bind fun t188 => (if t188 = true then ((laws_markIntS.f k t177 1).bind fun bt189 => ((laws_heldIntS.f k bt189.2 1).bind fun t191 => (if t191 < 0 then (some false) else (if t191 = bt189.1 then ((laws_toClaimList.f k a0_0 l0_1).bind fun bt192 => ((impl_OpenClaims.f k bt192.1 bt192.2 a1).bind fun t196 => ((laws_eqIntS.f k t196 t169).bind fun t199 => (if t199 = true then ((laws_heldIntS.f k bt189.2 1).bind fun t200 => (if t200 < 0 then (some false) else (if t200 = bt189.1 then (some true) else (some false)))) else (some false))))) else (some false))))) else (some false))))) else (some false)))) else (some false)))))))) = some r := H
  have A3 := Aside0.mk A30
  clear A30
  by_cases c4 : t164 < 0
  · rw [if_pos c4] at H
    have c4b0 : decide (t164 < 0) = true := decide_eq_true c4
    clear c4
    obtain rfl := Option.some.inj H
    go_enter Try.func8, Try.ntmps8
    go_wp2_with (first | ((with_reducible refine gate_dst (N := 2) rfl ?_); refine box_event ?hg (N := 2) ?hd (cs := #[.int .i64 a0_0, .slice A0_1 l0_1.length c0_1]) (t := 76) ?hr ?_; (case hd => rfl); (case hg => rfl); (case hr => exact tG); intro gb163 hg w5 hbox hb; have n0_ := Aside0.mk (below_step tB hb); have n1_ := Aside0.mk (hbox); have n2_ := Aside0.mk ((by rw [hg]; exact (below_size tB) : w.heap.size ≤ gb163)); have n3_ := Aside0.mk ((by rw [hg]; exact (below_size tB) : w.heap.size ≤ gb163)); clear HB; have HB := n0_; have BK163 := n1_; have GW163 := n2_; have GE163 := n3_; clear n0_ n1_ n2_ n3_; clear hb hbox hg; obtain ⟨hcz6_0, hcz6_1, hfz6_0, hfz6_1⟩ := bc2 BK163.out) | ((with_reducible refine gate_callee (f := 49) rfl ?_); refine goesL_ (some 15) rfl rfl Try.func49 (by kernel_rfl) rfl #[.agg #[.int .i64 a0_0, .slice A0_1 l0_1.length c0_1], .int .i64 1048576] rfl tL ?_; (with_reducible refine (laws_szClaimList.calls a0_0 _ _ l0_1 1048576 t164 _ ?side1 ?side2 A3.out).mono ?_); (case side1 => repeat (first | exact (Kd.C_below HR0_1.out HB.out) | (with_reducible refine Kd.C_alloc ?_ _) | (with_reducible refine Kd.C_drewN ?_ _) | (with_reducible refine Kd.C_drew ?_))); (case side2 => exact HC0_1.out); rintro e w7 ⟨rfl, hb⟩; refine ⟨_, rfl, ?_⟩; have n0_ := Aside0.mk (blk_below (g := gb163) (o := .cells #[.int .i64 a0_0, .slice A0_1 l0_1.length c0_1] 76 (0, 0)) (tK BK163) hb); have n1_ := Aside0.mk (below_step tB hb); clear BK163; clear HB; have BK163 := n0_; have HB := n1_; clear n0_ n1_; (try clear hb); (try clear hb2); (try clear hk); (try clear hi)))
    go_ret
    exact ⟨tE, tB⟩
  · rw [if_neg c4] at H
    have c4b0 : decide (t164 < 0) = false := decide_eq_false c4
    clear c4
    replace H := Option.bind_eq_some_iff.mp H
    obtain ⟨⟨t165, t166⟩, A80, H⟩ := H
    replace H : ((spec_OpenClaims.f k t165 t166 a1).bind fun t169 => ((laws_toClaimList.f k a0_0 l0_1).bind fun bt172 => ((impl_OpenClaims.f k bt172.1 bt172.2 a1).bind fun t177 => ((laws_eqIntS.f k t177 t169).bind fun t180 => (if t180 = true then ((laws_toClaimList.f k a0_0 l0_1).bind fun bt181 => ((laws_eqClaimList.f k bt172.1 bt172.2 bt181.1 bt181.2).bind fun t185 => (if t185 = true then ((laws_markClaimList.f k bt172.1 bt172.2 1).bind fun bt186 => (if bt186.1 < 0 then (some false) else ((laws_eqIntS.f k t177 t169).bind fun t188 => (if t188 = true then ((laws_markIntS.f k t177 1).bind fun bt189 => ((laws_heldIntS.f k bt189.2 1).bind fun t191 => (if t191 < 0 then (some false) else (if t191 = bt189.1 then ((laws_toClaimList.f k a0_0 l0_1).bind fun bt192 => ((impl_OpenClaims.f k bt192.1 bt192.2 a1).bind fun t196 => ((laws_eqIntS.f k t196 t169).bind fun t199 => (if t199 = true then ((laws_heldIntS.f k bt189.2 1).bind fun t200 => (if t200 < 0 then (some false) else (if t200 = bt189.1 then (some true) else (some false)))) else (some false))))) else (some false))))) else (some false))))) else (some false)))) else (some false)))))) = some r := H
    have A8 := Aside0.mk A80
    clear A80
    replace H := Option.bind_eq_some_iff.mp H
    obtain ⟨t169, A90, H⟩ := H
    replace H : ((laws_toClaimList.f k a0_0 l0_1).bind fun bt172 => ((impl_OpenClaims.f k bt172.1 bt172.2 a1).bind fun t177 => ((laws_eqIntS.f k t177 t169).bind fun t180 => (if t180 = true then ((laws_toClaimList.f k a0_0 l0_1).bind fun bt181 => ((laws_eqClaimList.f k bt172.1 bt172.2 bt181.1 bt181.2).bind fun t185 => (if t185 = true then ((laws_markClaimList.f k bt172.1 bt172.2 1).bind fun bt186 => (if bt186.1 < 0 then (some false) else ((laws_eqIntS.f k t177 t169).bind fun t188 => (if t188 = true then ((laws_markIntS.f k t177 1).bind fun bt189 => ((laws_heldIntS.f k bt189.2 1).bind fun t191 => (if t191 < 0 then (some false) else (if t191 = bt189.1 then ((laws_toClaimList.f k a0_0 l0_1).bind fun bt192 => ((impl_OpenClaims.f k bt192.1 bt192.2 a1).bind fun t196 => ((laws_eqIntS.f k t196 t169).bind fun t199 => (if t199 = true then ((laws_heldIntS.f k bt189.2 1).bind fun t200 => (if t200 < 0 then (some false) else (if t200 = bt189.1 then (some true) else (some false)))) else (some false))))) else (some false))))) else (some false))))) else (some false)))) else (some false))))) = some r := H
    have A9 := Aside0.mk A90
    clear A90
    replace H := Option.bind_eq_some_iff.mp H
    obtain ⟨⟨t172, t173⟩, A100, H⟩ := H
    replace H : ((impl_OpenClaims.f k t172 t173 a1).bind fun t177 => ((laws_eqIntS.f k t177 t169).bind fun t180 => (if t180 = true then ((laws_toClaimList.f k a0_0 l0_1).bind fun bt181 => ((laws_eqClaimList.f k t172 t173 bt181.1 bt181.2).bind fun t185 => (if t185 = true then ((laws_markClaimList.f k t172 t173 1).bind fun bt186 => (if bt186.1 < 0 then (some false) else ((laws_eqIntS.f k t177 t169).bind fun t188 => (if t188 = true then ((laws_markIntS.f k t177 1).bind fun bt189 => ((laws_heldIntS.f k bt189.2 1).bind fun t191 => (if t191 < 0 then (some false) else (if t191 = bt189.1 then ((laws_toClaimList.f k a0_0 l0_1).bind fun bt192 => ((impl_OpenClaims.f k bt192.1 bt192.2 a1).bind fun t196 => ((laws_eqIntS.f k t196 t169).bind fun t199 => (if t199 = true then ((laws_heldIntS.f k bt189.2 1).bind fun t200 => (if t200 < 0 then (some false) else (if t200 = bt189.1 then (some true) else (some false)))) else (some false))))) else (some false))))) else (some false))))) else (some false)))) else (some false)))) = some r := H
    have A10 := Aside0.mk A100
    clear A100
    replace H := Option.bind_eq_some_iff.mp H
    obtain ⟨t177, A110, H⟩ := H
    replace H : ((laws_eqIntS.f k t177 t169).bind fun t180 => (if t180 = true then ((laws_toClaimList.f k a0_0 l0_1).bind fun bt181 => ((laws_eqClaimList.f k t172 t173 bt181.1 bt181.2).bind fun t185 => (if t185 = true then ((laws_markClaimList.f k t172 t173 1).bind fun bt186 => (if bt186.1 < 0 then (some false) else ((laws_eqIntS.f k t177 t169).bind fun t188 => (if t188 = true then ((laws_markIntS.f k t177 1).bind fun bt189 => ((laws_heldIntS.f k bt189.2 1).bind fun t191 => (if t191 < 0 then (some false) else (if t191 = bt189.1 then ((laws_toClaimList.f k a0_0 l0_1).bind fun bt192 => ((impl_OpenClaims.f k bt192.1 bt192.2 a1).bind fun t196 => ((laws_eqIntS.f k t196 t169).bind fun t199 => (if t199 = true then ((laws_heldIntS.f k bt189.2 1).bind fun t200 => (if t200 < 0 then (some false) else (if t200 = bt189.1 then (some true) else (some false)))) else (some false))))) else (some false))))) else (some false))))) else (some false)))) else (some false))) = some r := H
    have A11 := Aside0.mk A110
    clear A110
    replace H := Option.bind_eq_some_iff.mp H
    obtain ⟨t180, A120, H⟩ := H
    replace H : (if t180 = true then ((laws_toClaimList.f k a0_0 l0_1).bind fun bt181 => ((laws_eqClaimList.f k t172 t173 bt181.1 bt181.2).bind fun t185 => (if t185 = true then ((laws_markClaimList.f k t172 t173 1).bind fun bt186 => (if bt186.1 < 0 then (some false) else ((laws_eqIntS.f k t177 t169).bind fun t188 => (if t188 = true then ((laws_markIntS.f k t177 1).bind fun bt189 => ((laws_heldIntS.f k bt189.2 1).bind fun t191 => (if t191 < 0 then (some false) else (if t191 = bt189.1 then ((laws_toClaimList.f k a0_0 l0_1).bind fun bt192 => ((impl_OpenClaims.f k bt192.1 bt192.2 a1).bind fun t196 => ((laws_eqIntS.f k t196 t169).bind fun t199 => (if t199 = true then ((laws_heldIntS.f k bt189.2 1).bind fun t200 => (if t200 < 0 then (some false) else (if t200 = bt189.1 then (some true) else (some false)))) else (some false))))) else (some false))))) else (some false))))) else (some false)))) else (some false)) = some r := H
    have A12 := Aside0.mk A120
    clear A120
    by_cases c13 : t180 = true
    · subst c13
      have H1 : ((laws_toClaimList.f k a0_0 l0_1).bind fun bt181 => ((laws_eqClaimList.f k t172 t173 bt181.1 bt181.2).bind fun t185 => (if t185 = true then ((laws_markClaimList.f k t172 t173 1).bind fun bt186 => (if bt186.1 < 0 then (some false) else ((laws_eqIntS.f k t177 t169).bind fun t188 => (if t188 = true then ((laws_markIntS.f k t177 1).bind fun bt189 => ((laws_heldIntS.f k bt189.2 1).bind fun t191 => (if t191 < 0 then (some false) else (if t191 = bt189.1 then ((laws_toClaimList.f k a0_0 l0_1).bind fun bt192 => ((impl_OpenClaims.f k bt192.1 bt192.2 a1).bind fun t196 => ((laws_eqIntS.f k t196 t169).bind fun t199 => (if t199 = true then ((laws_heldIntS.f k bt189.2 1).bind fun t200 => (if t200 < 0 then (some false) else (if t200 = bt189.1 then (some true) else (some false)))) else (some false))))) else (some false))))) else (some false))))) else (some false)))) = some r := by rw [if_pos rfl] at H; exact H
      clear H
      have H := H1
      clear H1
      replace H := Option.bind_eq_some_iff.mp H
      obtain ⟨⟨t181, t182⟩, A140, H⟩ := H
      replace H : ((laws_eqClaimList.f k t172 t173 t181 t182).bind fun t185 => (if t185 = true then ((laws_markClaimList.f k t172 t173 1).bind fun bt186 => (if bt186.1 < 0 then (some false) else ((laws_eqIntS.f k t177 t169).bind fun t188 => (if t188 = true then ((laws_markIntS.f k t177 1).bind fun bt189 => ((laws_heldIntS.f k bt189.2 1).bind fun t191 => (if t191 < 0 then (some false) else (if t191 = bt189.1 then ((laws_toClaimList.f k a0_0 l0_1).bind fun bt192 => ((impl_OpenClaims.f k bt192.1 bt192.2 a1).bind fun t196 => ((laws_eqIntS.f k t196 t169).bind fun t199 => (if t199 = true then ((laws_heldIntS.f k bt189.2 1).bind fun t200 => (if t200 < 0 then (some false) else (if t200 = bt189.1 then (some true) else (some false)))) else (some false))))) else (some false))))) else (some false))))) else (some false))) = some r := H
      have A14 := Aside0.mk A140
      clear A140
      replace H := Option.bind_eq_some_iff.mp H
      obtain ⟨t185, A150, H⟩ := H
      replace H : (if t185 = true then ((laws_markClaimList.f k t172 t173 1).bind fun bt186 => (if bt186.1 < 0 then (some false) else ((laws_eqIntS.f k t177 t169).bind fun t188 => (if t188 = true then ((laws_markIntS.f k t177 1).bind fun bt189 => ((laws_heldIntS.f k bt189.2 1).bind fun t191 => (if t191 < 0 then (some false) else (if t191 = bt189.1 then ((laws_toClaimList.f k a0_0 l0_1).bind fun bt192 => ((impl_OpenClaims.f k bt192.1 bt192.2 a1).bind fun t196 => ((laws_eqIntS.f k t196 t169).bind fun t199 => (if t199 = true then ((laws_heldIntS.f k bt189.2 1).bind fun t200 => (if t200 < 0 then (some false) else (if t200 = bt189.1 then (some true) else (some false)))) else (some false))))) else (some false))))) else (some false))))) else (some false)) = some r := H
      have A15 := Aside0.mk A150
      clear A150
      by_cases c16 : t185 = true
      · subst c16
        have H1 : ((laws_markClaimList.f k t172 t173 1).bind fun bt186 => (if bt186.1 < 0 then (some false) else ((laws_eqIntS.f k t177 t169).bind fun t188 => (if t188 = true then ((laws_markIntS.f k t177 1).bind fun bt189 => ((laws_heldIntS.f k bt189.2 1).bind fun t191 => (if t191 < 0 then (some false) else (if t191 = bt189.1 then ((laws_toClaimList.f k a0_0 l0_1).bind fun bt192 => ((impl_OpenClaims.f k bt192.1 bt192.2 a1).bind fun t196 => ((laws_eqIntS.f k t196 t169).bind fun t199 => (if t199 = true then ((laws_heldIntS.f k bt189.2 1).bind fun t200 => (if t200 < 0 then (some false) else (if t200 = bt189.1 then (some true) else (some false)))) else (some false))))) else (some false))))) else (some false))))) = some r := by rw [if_pos rfl] at H; exact H
        clear H
        have H := H1
        clear H1
        replace H := Option.bind_eq_some_iff.mp H
        obtain ⟨⟨t186, t187⟩, A170, H⟩ := H
        replace H : (if t186 < 0 then (some false) else ((laws_eqIntS.f k t177 t169).bind fun t188 => (if t188 = true then ((laws_markIntS.f k t177 1).bind fun bt189 => ((laws_heldIntS.f k bt189.2 1).bind fun t191 => (if t191 < 0 then (some false) else (if t191 = bt189.1 then ((laws_toClaimList.f k a0_0 l0_1).bind fun bt192 => ((impl_OpenClaims.f k bt192.1 bt192.2 a1).bind fun t196 => ((laws_eqIntS.f k t196 t169).bind fun t199 => (if t199 = true then ((laws_heldIntS.f k bt189.2 1).bind fun t200 => (if t200 < 0 then (some false) else (if t200 = bt189.1 then (some true) else (some false)))) else (some false))))) else (some false))))) else (some false)))) = some r := H
        have A17 := Aside0.mk A170
        clear A170
        by_cases c18 : t186 < 0
        · rw [if_pos c18] at H
          have c18b0 : decide (t186 < 0) = true := decide_eq_true c18
          clear c18
          exact absurd ((Option.some.inj H).trans hT_) (by decide)
        · rw [if_neg c18] at H
          have c18b0 : decide (t186 < 0) = false := decide_eq_false c18
          clear c18
          replace H := Option.bind_eq_some_iff.mp H
          obtain ⟨t188, A190, H⟩ := H
          replace H : (if t188 = true then ((laws_markIntS.f k t177 1).bind fun bt189 => ((laws_heldIntS.f k bt189.2 1).bind fun t191 => (if t191 < 0 then (some false) else (if t191 = bt189.1 then ((laws_toClaimList.f k a0_0 l0_1).bind fun bt192 => ((impl_OpenClaims.f k bt192.1 bt192.2 a1).bind fun t196 => ((laws_eqIntS.f k t196 t169).bind fun t199 => (if t199 = true then ((laws_heldIntS.f k bt189.2 1).bind fun t200 => (if t200 < 0 then (some false) else (if t200 = bt189.1 then (some true) else (some false)))) else (some false))))) else (some false))))) else (some false)) = some r := H
          have A19 := Aside0.mk A190
          clear A190
          by_cases c20 : t188 = true
          · subst c20
            have H1 : ((laws_markIntS.f k t177 1).bind fun bt189 => ((laws_heldIntS.f k bt189.2 1).bind fun t191 => (if t191 < 0 then (some false) else (if t191 = bt189.1 then ((laws_toClaimList.f k a0_0 l0_1).bind fun bt192 => ((impl_OpenClaims.f k bt192.1 bt192.2 a1).bind fun t196 => ((laws_eqIntS.f k t196 t169).bind fun t199 => (if t199 = true then ((laws_heldIntS.f k bt189.2 1).bind fun t200 => (if t200 < 0 then (some false) else (if t200 = bt189.1 then (some true) else (some false)))) else (some false))))) else (some false))))) = some r := by rw [if_pos rfl] at H; exact H
            clear H
            have H := H1
            clear H1
            replace H := Option.bind_eq_some_iff.mp H
            obtain ⟨⟨t189, t190⟩, A210, H⟩ := H
            replace H : ((laws_heldIntS.f k t190 1).bind fun t191 => (if t191 < 0 then (some false) else (if t191 = t189 then ((laws_toClaimList.f k a0_0 l0_1).bind fun bt192 => ((impl_OpenClaims.f k bt192.1 bt192.2 a1).bind fun t196 => ((laws_eqIntS.f k t196 t169).bind fun t199 => (if t199 = true then ((laws_heldIntS.f k t190 1).bind fun t200 => (if t200 < 0 then (some false) else (if t200 = t189 then (some true) else (some false)))) else (some false))))) else (some false)))) = some r := H
            have A21 := Aside0.mk A210
            clear A210
            replace H := Option.bind_eq_some_iff.mp H
            obtain ⟨t191, A220, H⟩ := H
            replace H : (if t191 < 0 then (some false) else (if t191 = t189 then ((laws_toClaimList.f k a0_0 l0_1).bind fun bt192 => ((impl_OpenClaims.f k bt192.1 bt192.2 a1).bind fun t196 => ((laws_eqIntS.f k t196 t169).bind fun t199 => (if t199 = true then ((laws_heldIntS.f k t190 1).bind fun t200 => (if t200 < 0 then (some false) else (if t200 = t189 then (some true) else (some false)))) else (some false))))) else (some false))) = some r := H
            have A22 := Aside0.mk A220
            clear A220
            by_cases c23 : t191 < 0
            · rw [if_pos c23] at H
              have c23b0 : decide (t191 < 0) = true := decide_eq_true c23
              clear c23
              exact absurd ((Option.some.inj H).trans hT_) (by decide)
            · rw [if_neg c23] at H
              have c23b0 : decide (t191 < 0) = false := decide_eq_false c23
              clear c23
              by_cases c24 : t191 = t189
              · rw [if_pos c24] at H
                have c24b0 : (t191 == t189) = true := beq_iff_eq.mpr c24
                have c24b1 : (t191 != t189) = false := bne_eq_false_iff_eq.mpr c24
                clear c24
                replace H := Option.bind_eq_some_iff.mp H
                obtain ⟨⟨t192, t193⟩, A250, H⟩ := H
                replace H : ((impl_OpenClaims.f k t192 t193 a1).bind fun t196 => ((laws_eqIntS.f k t196 t169).bind fun t199 => (if t199 = true then ((laws_heldIntS.f k t190 1).bind fun t200 => (if t200 < 0 then (some false) else (if t200 = t189 then (some true) else (some false)))) else (some false)))) = some r := H
                have A25 := Aside0.mk A250
                clear A250
                replace H := Option.bind_eq_some_iff.mp H
                obtain ⟨t196, A260, H⟩ := H
                replace H : ((laws_eqIntS.f k t196 t169).bind fun t199 => (if t199 = true then ((laws_heldIntS.f k t190 1).bind fun t200 => (if t200 < 0 then (some false) else (if t200 = t189 then (some true) else (some false)))) else (some false))) = some r := H
                have A26 := Aside0.mk A260
                clear A260
                replace H := Option.bind_eq_some_iff.mp H
                obtain ⟨t199, A270, H⟩ := H
                replace H : (if t199 = true then ((laws_heldIntS.f k t190 1).bind fun t200 => (if t200 < 0 then (some false) else (if t200 = t189 then (some true) else (some false)))) else (some false)) = some r := H
                have A27 := Aside0.mk A270
                clear A270
                by_cases c28 : t199 = true
                · subst c28
                  have H1 : ((laws_heldIntS.f k t190 1).bind fun t200 => (if t200 < 0 then (some false) else (if t200 = t189 then (some true) else (some false)))) = some r := by rw [if_pos rfl] at H; exact H
                  clear H
                  have H := H1
                  clear H1
                  replace H := Option.bind_eq_some_iff.mp H
                  obtain ⟨t200, A290, H⟩ := H
                  replace H : (if t200 < 0 then (some false) else (if t200 = t189 then (some true) else (some false))) = some r := H
                  have A29 := Aside0.mk A290
                  clear A290
                  by_cases c30 : t200 < 0
                  · rw [if_pos c30] at H
                    have c30b0 : decide (t200 < 0) = true := decide_eq_true c30
                    clear c30
                    exact absurd ((Option.some.inj H).trans hT_) (by decide)
                  · rw [if_neg c30] at H
                    have c30b0 : decide (t200 < 0) = false := decide_eq_false c30
                    clear c30
                    by_cases c31 : t200 = t189
                    · rw [if_pos c31] at H
                      have c31b0 : (t200 == t189) = true := beq_iff_eq.mpr c31
                      have c31b1 : (t200 != t189) = false := bne_eq_false_iff_eq.mpr c31
                      clear c31
                      obtain rfl := Option.some.inj H
                      go_enter Try.func8, Try.ntmps8
                      try go_wp2_with (first | ((with_reducible refine gate_dst (N := 2) rfl ?_); refine box_event ?hg (N := 2) ?hd (cs := #[.int .i64 a0_0, .slice A0_1 l0_1.length c0_1]) (t := 76) ?hr ?_; (case hd => rfl); (case hg => rfl); (case hr => exact tG); intro gb163 hg w32 hbox hb; have n0_ := Aside0.mk (below_step tB hb); have n1_ := Aside0.mk (hbox); have n2_ := Aside0.mk ((by rw [hg]; exact (below_size tB) : w.heap.size ≤ gb163)); have n3_ := Aside0.mk ((by rw [hg]; exact (below_size tB) : w.heap.size ≤ gb163)); clear HB; have HB := n0_; have BK163 := n1_; have GW163 := n2_; have GE163 := n3_; clear n0_ n1_ n2_ n3_; clear hb hbox hg; obtain ⟨hcz33_0, hcz33_1, hfz33_0, hfz33_1⟩ := bc2 BK163.out) | ((with_reducible refine gate_callee (f := 49) rfl ?_); refine goesL_ (some 15) rfl rfl Try.func49 (by kernel_rfl) rfl #[.agg #[.int .i64 a0_0, .slice A0_1 l0_1.length c0_1], .int .i64 1048576] rfl tL ?_; (with_reducible refine (laws_szClaimList.calls a0_0 _ _ l0_1 1048576 t164 _ ?side1 ?side2 A3.out).mono ?_); (case side1 => repeat (first | exact (Kd.C_below HR0_1.out HB.out) | (with_reducible refine Kd.C_alloc ?_ _) | (with_reducible refine Kd.C_drewN ?_ _) | (with_reducible refine Kd.C_drew ?_))); (case side2 => exact HC0_1.out); rintro e w34 ⟨rfl, hb⟩; refine ⟨_, rfl, ?_⟩; have n0_ := Aside0.mk (blk_below (g := gb163) (o := .cells #[.int .i64 a0_0, .slice A0_1 l0_1.length c0_1] 76 (0, 0)) (tK BK163) hb); have n1_ := Aside0.mk (below_step tB hb); clear BK163; clear HB; have BK163 := n0_; have HB := n1_; clear n0_ n1_; (try clear hb); (try clear hb2); (try clear hk); (try clear hi); obtain ⟨hcz35_0, hcz35_1, hfz35_0, hfz35_1⟩ := bc2 BK163.out) | ((with_reducible refine gate_callee (f := 51) rfl ?_); refine goesL_ (some 19) rfl rfl Try.func51 (by kernel_rfl) rfl #[.agg #[.int .i64 a0_0, .slice A0_1 l0_1.length c0_1]] rfl tL ?_; (with_reducible refine (laws_toClaimList.calls k a0_0 _ _ l0_1 t165 t166 _ ?side1 ?side2 A8.out).mono ?_); (case side1 => repeat (first | exact (Kd.C_below HR0_1.out HB.out) | (with_reducible refine Kd.C_alloc ?_ _) | (with_reducible refine Kd.C_drewN ?_ _) | (with_reducible refine Kd.C_drew ?_))); (case side2 => exact HC0_1.out); rintro e w36 ⟨v167, rfl, ho0, hb⟩; refine ⟨_, rfl, ?_⟩; have n0_ := Aside0.mk (Kd.R_lower ho0 (below_size tB)); have n1_ := Aside0.mk (blk_below (g := gb163) (o := .cells #[.int .i64 a0_0, .slice A0_1 l0_1.length c0_1] 76 (0, 0)) (tK BK163) hb); have n2_ := Aside0.mk (below_step tB hb); clear BK163; clear HB; have HO168 := n0_; have BK163 := n1_; have HB := n2_; clear n0_ n1_ n2_; (try clear hb); (try clear hb2); (try clear hk); (try clear hi); (try clear ho0); obtain ⟨Ao37, co37, eo37⟩ := Kd.R_slice HO168.out; subst eo37) | ((with_reducible refine gate_callee (f := 50) rfl ?_); refine goesL_ (some 21) rfl rfl Try.func50 (by kernel_rfl) rfl #[.agg #[.int .i64 t165, .slice Ao37 t166.length co37], .int .i64 a1] rfl tL ?_; (with_reducible refine (spec_OpenClaims.calls k t165 _ _ t166 a1 t169 _ ?side1 ?side2 A9.out).mono ?_); (case side1 => repeat (first | exact (Kd.R_reads' HO168.out).2.2 | (with_reducible refine Kd.C_alloc ?_ _) | (with_reducible refine Kd.C_drewN ?_ _) | (with_reducible refine Kd.C_drew ?_))); (case side2 => exact (Kd.R_reads' HO168.out).2.1); rintro e w38 ⟨v170, rfl, ho0, hb⟩; refine ⟨_, rfl, ?_⟩; have n0_ := Aside0.mk (Kd.R_below (tR HO168) hb); have n1_ := Aside0.mk (Kd.R_lower ho0 (below_size tB)); have n2_ := Aside0.mk (blk_below (g := gb163) (o := .cells #[.int .i64 a0_0, .slice A0_1 l0_1.length c0_1] 76 (0, 0)) (tK BK163) hb); have n3_ := Aside0.mk (below_step tB hb); clear HO168; clear BK163; clear HB; have HO168 := n0_; have HO171 := n1_; have BK163 := n2_; have HB := n3_; clear n0_ n1_ n2_ n3_; (try clear hb); (try clear hb2); (try clear hk); (try clear hi); (try clear ho0); obtain ⟨hcz39_0, hcz39_1, hfz39_0, hfz39_1⟩ := bc2 BK163.out) | ((with_reducible refine gate_callee (f := 51) rfl ?_); refine goesL_ (some 23) rfl rfl Try.func51 (by kernel_rfl) rfl #[.agg #[.int .i64 a0_0, .slice A0_1 l0_1.length c0_1]] rfl tL ?_; (with_reducible refine (laws_toClaimList.calls k a0_0 _ _ l0_1 t172 t173 _ ?side1 ?side2 A10.out).mono ?_); (case side1 => repeat (first | exact (Kd.C_below HR0_1.out HB.out) | (with_reducible refine Kd.C_alloc ?_ _) | (with_reducible refine Kd.C_drewN ?_ _) | (with_reducible refine Kd.C_drew ?_))); (case side2 => exact HC0_1.out); rintro e w40 ⟨v174, rfl, ho0, hb⟩; refine ⟨_, rfl, ?_⟩; have n0_ := Aside0.mk (Kd.R_elder' (tR HO168) (Kd.R_base ho0) hb); have n1_ := Aside0.mk (Kd.R_below (tR HO171) hb); have n2_ := Aside0.mk (Kd.R_lower (Kd.R_new' ho0 (Kd.R_lt (tR HO168))) (below_size tB)); have n3_ := Aside0.mk (blk_below (g := gb163) (o := .cells #[.int .i64 a0_0, .slice A0_1 l0_1.length c0_1] 76 (0, 0)) (tK BK163) hb); have n4_ := Aside0.mk (below_step tB hb); clear HO168; clear HO171; clear BK163; clear HB; have HO168 := n0_; have HO171 := n1_; have HO175 := n2_; have BK163 := n3_; have HB := n4_; clear n0_ n1_ n2_ n3_ n4_; (try clear hb); (try clear hb2); (try clear hk); (try clear hi); (try clear ho0)) | ((with_reducible refine gate_dst (N := 7) rfl ?_); refine box_event ?hg (N := 7) ?hd (cs := #[.int .i64 0, .slice none 0 0]) (t := 81) ?hr ?_; (case hd => rfl); (case hg => rfl); (case hr => exact tG); intro gb176 hg w41 hbox hb; have n0_ := Aside0.mk (Kd.R_below (tR HO168) hb); have n1_ := Aside0.mk (Kd.R_below (tR HO171) hb); have n2_ := Aside0.mk (Kd.R_below (tR HO175) hb); have n3_ := Aside0.mk (blk_below (g := gb163) (o := .cells #[.int .i64 a0_0, .slice A0_1 l0_1.length c0_1] 76 (0, 0)) (tK BK163) hb); have n4_ := Aside0.mk (below_step tB hb); have n5_ := Aside0.mk (hbox); have n6_ := Aside0.mk ((by rw [hg]; exact (below_size tB) : w.heap.size ≤ gb176)); have n7_ := Aside0.mk ((by rw [hg]; exact (below_size tB) : w.heap.size ≤ gb176)); have n8_ := Aside0.mk ((by rw [hg]; exact Nat.ne_of_lt (blk_lt (g := gb163) (o := .cells #[.int .i64 a0_0, .slice A0_1 l0_1.length c0_1] 76 (0, 0)) (tK BK163)) : gb163 ≠ gb176)); have n9_ := Aside0.mk ((by rw [hg]; exact Nat.ne_of_gt (blk_lt (g := gb163) (o := .cells #[.int .i64 a0_0, .slice A0_1 l0_1.length c0_1] 76 (0, 0)) (tK BK163)) : gb176 ≠ gb163)); clear HO168; clear HO171; clear HO175; clear BK163; clear HB; have HO168 := n0_; have HO171 := n1_; have HO175 := n2_; have BK163 := n3_; have HB := n4_; have BK176 := n5_; have GW176 := n6_; have GE176 := n7_; have NB163_176 := n8_; have NB176_163 := n9_; clear n0_ n1_ n2_ n3_ n4_ n5_ n6_ n7_ n8_ n9_; clear hb hbox hg; have hnb42 := NB176_163.out; have hnc42 := NB163_176.out; obtain ⟨hcz43_0, hcz43_1, hfz43_0, hfz43_1⟩ := bc2 BK176.out; obtain ⟨Ao44, co44, eo44⟩ := Kd.R_slice HO175.out; subst eo44) | ((with_reducible refine gate_callee (f := 52) rfl ?_); refine goesL_ (some 26) rfl rfl Try.func52 (by kernel_rfl) rfl #[.agg #[.int .i64 t172, .slice Ao44 t173.length co44], .int .i64 a1] rfl tL ?_; (with_reducible refine (impl_OpenClaims.calls k t172 _ _ t173 a1 t177 _ ?side1 ?side2 A11.out).mono ?_); (case side1 => refine (Kd.R_reads' (e := 134) (base := w.heap.size) (ok := fun k_ => (True ∧ some k_ ≠ (.slice Ao37 t166.length co37 : Value).ownBlock)) (n := t173.length) (c := co44) ?_).2.2; exact (by (with_reducible repeat (first | apply Kd.R_alloc | apply Kd.R_drewN | apply Kd.R_drew)); exact (Kd.R_mono (Kd.R_far (p := ⟨gb176, 1, none⟩) (Kd.R_far (p := ⟨gb176, 0, none⟩) (Kd.R_types HO175.out BK176.out (by decide)) (fun _ hk => hk.2) (.int .i64 t172)) (fun _ hk => hk.2) (.slice Ao44 t173.length co44)) (fun _ h_ => h_.1)))); (case side2 => exact (Kd.R_reads' HO175.out).2.1); rintro e w45 ⟨v178, rfl, ho0, hb⟩; refine ⟨_, rfl, ?_⟩; have n0_ := Aside0.mk (Kd.R_below (by (with_reducible repeat (first | apply Kd.R_alloc | apply Kd.R_drewN | apply Kd.R_drew)); exact (Kd.R_mono (Kd.R_far (p := ⟨gb176, 1, none⟩) (Kd.R_far (p := ⟨gb176, 0, none⟩) (Kd.R_types HO168.out BK176.out (by decide)) (fun _ hk => hk.2) (.int .i64 t172)) (fun _ hk => hk.2) (.slice Ao44 t173.length co44)) (fun _ h_ => h_.1))) hb); have n1_ := Aside0.mk (Kd.R_elder' (by (with_reducible repeat (first | apply Kd.R_alloc | apply Kd.R_drewN | apply Kd.R_drew)); exact (Kd.R_mono (Kd.R_far (p := ⟨gb176, 1, none⟩) (Kd.R_far (p := ⟨gb176, 0, none⟩) (Kd.R_types HO171.out BK176.out (by decide)) (fun _ hk => hk.2) (.int .i64 t172)) (fun _ hk => hk.2) (.slice Ao44 t173.length co44)) (fun _ h_ => h_.1))) (Kd.R_base ho0) hb); have n2_ := Aside0.mk (Kd.R_below (by (with_reducible repeat (first | apply Kd.R_alloc | apply Kd.R_drewN | apply Kd.R_drew)); exact (Kd.R_mono (Kd.R_far (p := ⟨gb176, 1, none⟩) (Kd.R_far (p := ⟨gb176, 0, none⟩) (Kd.R_types HO175.out BK176.out (by decide)) (fun _ hk => hk.2) (.int .i64 t172)) (fun _ hk => hk.2) (.slice Ao44 t173.length co44)) (fun _ h_ => h_.1))) hb); have n3_ := Aside0.mk (Kd.R_lower (Kd.R_new' ho0 (Kd.R_lt (by (with_reducible repeat (first | apply Kd.R_alloc | apply Kd.R_drewN | apply Kd.R_drew)); exact (Kd.R_mono (Kd.R_far (p := ⟨gb176, 1, none⟩) (Kd.R_far (p := ⟨gb176, 0, none⟩) (Kd.R_types HO171.out BK176.out (by decide)) (fun _ hk => hk.2) (.int .i64 t172)) (fun _ hk => hk.2) (.slice Ao44 t173.length co44)) (fun _ h_ => h_.1))))) (below_size tB)); have n4_ := Aside0.mk (blk_below (g := gb163) (o := .cells #[.int .i64 a0_0, .slice A0_1 l0_1.length c0_1] 76 (0, 0)) (by (with_reducible repeat (first | refine blk_drewN ?_ _ | refine blk_drew ?_ | refine blk_alloc ?_ _)); refine blk_far ?_ NB163_176.out _; (with_reducible repeat (first | refine blk_drewN ?_ _ | refine blk_drew ?_ | refine blk_alloc ?_ _)); refine blk_far ?_ NB163_176.out _; (with_reducible repeat (first | refine blk_drewN ?_ _ | refine blk_drew ?_ | refine blk_alloc ?_ _)); exact BK163.out) hb); have n5_ := Aside0.mk (blk_below (g := gb176) (o := .cells #[.int .i64 t172, .slice Ao44 t173.length co44] 81 (0, 0)) (by (with_reducible repeat (first | refine blk_drewN ?_ _ | refine blk_drew ?_ | refine blk_alloc ?_ _)); refine blk_put (cs := #[.int .i64 t172, .slice none 0 0]) ?_ 1 _ rfl; (with_reducible repeat (first | refine blk_drewN ?_ _ | refine blk_drew ?_ | refine blk_alloc ?_ _)); refine blk_put (cs := #[.int .i64 0, .slice none 0 0]) ?_ 0 _ rfl; (with_reducible repeat (first | refine blk_drewN ?_ _ | refine blk_drew ?_ | refine blk_alloc ?_ _)); exact BK176.out) hb); have n6_ := Aside0.mk (below_step tB hb); clear HO168; clear HO171; clear HO175; clear BK163; clear BK176; clear HB; have HO168 := n0_; have HO171 := n1_; have HO175 := n2_; have HO179 := n3_; have BK163 := n4_; have BK176 := n5_; have HB := n6_; clear n0_ n1_ n2_ n3_ n4_ n5_ n6_; (try clear hb); (try clear hb2); (try clear hk); (try clear hi); (try clear ho0); obtain ⟨Ao46, co46, eo46⟩ := Kd.R_slice HO179.out; subst eo46; obtain ⟨Ao47, co47, eo47⟩ := Kd.R_slice HO171.out; subst eo47) | ((with_reducible refine gate_callee (f := 34) rfl ?_); refine goesL_ (some 29) rfl rfl Try.func34 (by kernel_rfl) rfl #[.slice Ao46 t177.length co46, .slice Ao47 t169.length co47] rfl tL ?_; (with_reducible refine (laws_eqIntS.calls k _ _ t177 _ _ t169 true _ ?side1 ?side2 ?side3 ?side4 A12.out).mono ?_); (case side1 => repeat (first | exact (Kd.R_reads' HO179.out).2.2 | (with_reducible refine Kd.C_alloc ?_ _) | (with_reducible refine Kd.C_drewN ?_ _) | (with_reducible refine Kd.C_drew ?_))); (case side2 => exact (Kd.R_reads' HO179.out).2.1); (case side3 => repeat (first | exact (Kd.R_reads' HO171.out).2.2 | (with_reducible refine Kd.C_alloc ?_ _) | (with_reducible refine Kd.C_drewN ?_ _) | (with_reducible refine Kd.C_drew ?_))); (case side4 => exact (Kd.R_reads' HO171.out).2.1); rintro e w' ⟨rfl, ⟨nd, rfl⟩⟩; refine ⟨_, rfl, ?_⟩))
                      (try (rw [drewN_self w45]; generalize hq_ : World.drewN w45 _ = w45; have n0_ : Aside0 (Kd.R k134 134 w45 w.heap.size (fun k_ => some k_ ≠ (.slice Ao44 t173.length co44 : Value).ownBlock) (.slice Ao37 t166.length co37) t166) := ⟨by rw [← hq_]; exact (by (with_reducible repeat (first | apply Kd.R_alloc | apply Kd.R_drewN | apply Kd.R_drew)); exact Kd.R_mono HO168.out (fun _ hk => hk.2))⟩; have n1_ : Aside0 (Kd.R (Kd.int .i64) 3 w45 w.heap.size (fun k_ => some k_ ≠ (.slice Ao46 t177.length co46 : Value).ownBlock) (.slice Ao47 t169.length co47) t169) := ⟨by rw [← hq_]; exact (by (with_reducible repeat (first | apply Kd.R_alloc | apply Kd.R_drewN | apply Kd.R_drew)); exact Kd.R_mono HO171.out (fun _ hk => hk.2))⟩; have n2_ : Aside0 (Kd.R k134 134 w45 w.heap.size (fun k_ => some k_ ≠ (.slice Ao37 t166.length co37 : Value).ownBlock) (.slice Ao44 t173.length co44) t173) := ⟨by rw [← hq_]; exact (by (with_reducible repeat (first | apply Kd.R_alloc | apply Kd.R_drewN | apply Kd.R_drew)); exact Kd.R_mono HO175.out (fun _ hk => hk.2))⟩; have n3_ : Aside0 (Kd.R (Kd.int .i64) 3 w45 w.heap.size (fun k_ => some k_ ≠ (.slice Ao47 t169.length co47 : Value).ownBlock) (.slice Ao46 t177.length co46) t177) := ⟨by rw [← hq_]; exact (by (with_reducible repeat (first | apply Kd.R_alloc | apply Kd.R_drewN | apply Kd.R_drew)); exact Kd.R_mono HO179.out (fun _ hk => hk.2))⟩; have n4_ : Aside0 (w45.heap[gb163]? = some (.cells #[.int .i64 a0_0, .slice A0_1 l0_1.length c0_1] 76 (0, 0))) := ⟨by rw [← hq_]; exact (tK BK163)⟩; have n5_ : Aside0 (w45.heap[gb176]? = some (.cells #[.int .i64 t172, .slice Ao44 t173.length co44] 81 (0, 0))) := ⟨by rw [← hq_]; exact (tK BK176)⟩; have n6_ : Aside0 (Below w.heap.size w w45) := ⟨by rw [← hq_]; exact tB⟩; clear HO168 HO171 HO175 HO179 BK163 BK176 HB hq_; have HO168 := n0_; have HO171 := n1_; have HO175 := n2_; have HO179 := n3_; have BK163 := n4_; have BK176 := n5_; have HB := n6_; clear n0_ n1_ n2_ n3_ n4_ n5_ n6_))
                      have n0_ := Aside0.mk (Kd.R_drew HO168.out)
                      have n1_ := Aside0.mk (Kd.R_drew HO171.out)
                      have n2_ := Aside0.mk (Kd.R_drew HO175.out)
                      have n3_ := Aside0.mk (Kd.R_drew HO179.out)
                      have n4_ := Aside0.mk (blk_drew BK163.out)
                      have n5_ := Aside0.mk (blk_drew BK176.out)
                      have n6_ := Aside0.mk (below_drew1 HB.out)
                      clear HO168
                      clear HO171
                      clear HO175
                      clear HO179
                      clear BK163
                      clear BK176
                      clear HB
                      have HO168 := n0_
                      have HO171 := n1_
                      have HO175 := n2_
                      have HO179 := n3_
                      have BK163 := n4_
                      have BK176 := n5_
                      have HB := n6_
                      clear n0_ n1_ n2_ n3_ n4_ n5_ n6_
                      refine start_ (n := 5) (S := fun w' => w'.cell? ⟨gb176, 0, none⟩ = some (.int .i64 t172) ∧ w'.cell? ⟨gb176, 1, none⟩ = some (.slice Ao44 t173.length co44) ∧ w'.cell? ⟨gb163, 0, none⟩ = some (.int .i64 a0_0) ∧ w'.cell? ⟨gb163, 1, none⟩ = some (.slice A0_1 l0_1.length c0_1)) (ds := []) #[false, false, false, false, false] (by kernel_rfl) rfl rfl ⟨(blk_cell BK176.out 0).trans rfl, (blk_cell BK176.out 1).trans rfl, (blk_cell BK163.out 0).trans rfl, (blk_cell BK163.out 1).trans rfl⟩ (fun hHeld => ?_)
                      generalize w45.drew = w48 at HO168 HO171 HO175 HO179 BK163 BK176 HB hHeld ⊢
                      refine take_ (i := 0) (N := some 31) (v := ?_) (a' := ?_) #[true, false, false, false, false] rfl rfl (by kernel_rfl) (fun _ _ _ h => h) (Or.inl ⟨by rfl, ?_⟩) hHeld ?_ ?_
                      rotate_left
                      · rintro w' ⟨s0, s1, s2, s3⟩
                        go_simp
                        with_reducible rfl
                      rotate_left
                      · simp only [Act.put, List.setIfInBounds_toArray, List.set_cons_zero, List.set_cons_succ, i64_w, i32_w]
                        rfl
                      refine take_ (i := 1) (N := some 32) (v := ?_) (a' := ?_) #[true, true, false, false, false] rfl rfl (by kernel_rfl) (fun _ _ _ h => h) (Or.inl ⟨by rfl, ?_⟩) hHeld ?_ ?_
                      rotate_left
                      · rintro w' ⟨s0, s1, s2, s3⟩
                        go_simp
                        with_reducible rfl
                      rotate_left
                      · simp only [Act.put, List.setIfInBounds_toArray, List.set_cons_zero, List.set_cons_succ, i64_w, i32_w]
                        rfl
                      refine one_ (i := 2) (N := some 33) #[true, true, true, false, false] rfl rfl (by kernel_rfl) (by decide) (fun K hK => ?_)
                      refine goes_ Try.func51 (by kernel_rfl) rfl #[.agg #[.int .i64 a0_0, .slice A0_1 l0_1.length c0_1]] (by rfl) rfl rfl tL ?_
                      with_reducible refine (laws_toClaimList.calls k a0_0 _ _ l0_1 t181 t182 _ ?side1 ?side2 A14.out).mono ?_
                      (case side1 => repeat (first | exact (Kd.C_below HR0_1.out HB.out) | (with_reducible refine Kd.C_alloc ?_ _) | (with_reducible refine Kd.C_drewN ?_ _) | (with_reducible refine Kd.C_drew ?_)))
                      (case side2 => exact HC0_1.out)
                      rintro e w49 ⟨v183, rfl, ho0, hb⟩
                      refine ⟨_, rfl, ?_⟩
                      have n0_ := Aside0.mk (Kd.R_elder' (tR HO168) (Kd.R_base ho0) hb)
                      have n1_ := Aside0.mk (Kd.R_below (tR HO171) hb)
                      have n2_ := Aside0.mk (Kd.R_elder' (tR HO175) (Kd.R_base ho0) hb)
                      have n3_ := Aside0.mk (Kd.R_below (tR HO179) hb)
                      have n4_ := Aside0.mk (Kd.R_lower (Kd.R_new' (Kd.R_new' ho0 (Kd.R_lt (tR HO168))) (Kd.R_lt (tR HO175))) (below_size tB))
                      have n5_ := Aside0.mk (blk_below (g := gb163) (o := .cells #[.int .i64 a0_0, .slice A0_1 l0_1.length c0_1] 76 (0, 0)) (tK BK163) hb)
                      have n6_ := Aside0.mk (blk_below (g := gb176) (o := .cells #[.int .i64 t172, .slice Ao44 t173.length co44] 81 (0, 0)) (tK BK176) hb)
                      have n7_ := Aside0.mk (below_step tB hb)
                      clear HO168
                      clear HO171
                      clear HO175
                      clear HO179
                      clear BK163
                      clear BK176
                      clear HB
                      have HO168 := n0_
                      have HO171 := n1_
                      have HO175 := n2_
                      have HO179 := n3_
                      have HO184 := n4_
                      have BK163 := n5_
                      have BK176 := n6_
                      have HB := n7_
                      clear n0_ n1_ n2_ n3_ n4_ n5_ n6_ n7_
                      (try clear hb)
                      (try clear hb2)
                      (try clear hk)
                      (try clear hi)
                      (try clear ho0)
                      obtain ⟨Ao50, co50, eo50⟩ := Kd.R_slice HO184.out
                      (first | subst eo50 | (injection eo50 with f1_ f2_ f3_; have f4_ := f1_.symm; have f5_ := f3_.symm; clear f1_ f2_ f3_; subst f4_; subst f5_))
                      refine hK.out _ _ ⟨(blk_cell BK176.out 0).trans rfl, (blk_cell BK176.out 1).trans rfl, (blk_cell BK163.out 0).trans rfl, (blk_cell BK163.out 1).trans rfl⟩ (fun hHeld => ?_)
                      clear hK K
                      refine norm_ (a' := ?_) ?_ ?_
                      rotate_left
                      · show Act.put _ (some 33) _ = _
                        simp only [Act.put, List.setIfInBounds_toArray, List.set_cons_zero, List.set_cons_succ, i64_w, i32_w]
                        rfl
                      refine one_ (i := 3) (N := some 34) #[true, true, true, true, false] rfl rfl (by kernel_rfl) (by decide) (fun K hK => ?_)
                      refine goes_ Try.func53 (by kernel_rfl) rfl #[.agg #[.int .i64 t172, .slice Ao44 t173.length co44], .agg #[.int .i64 t181, .slice Ao50 t182.length co50]] (by rfl) rfl rfl tL ?_
                      with_reducible refine (laws_eqClaimList.calls k t172 _ _ t173 t181 _ _ t182 true _ ?side1 ?side2 ?side3 ?side4 A15.out).mono ?_
                      (case side1 => repeat (first | exact (Kd.R_reads' HO175.out).2.2 | (with_reducible refine Kd.C_alloc ?_ _) | (with_reducible refine Kd.C_drewN ?_ _) | (with_reducible refine Kd.C_drew ?_)))
                      (case side2 => exact (Kd.R_reads' HO175.out).2.1)
                      (case side3 => repeat (first | exact (Kd.R_reads' HO184.out).2.2 | (with_reducible refine Kd.C_alloc ?_ _) | (with_reducible refine Kd.C_drewN ?_ _) | (with_reducible refine Kd.C_drew ?_)))
                      (case side4 => exact (Kd.R_reads' HO184.out).2.1)
                      rintro e w51 ⟨rfl, hb⟩
                      refine ⟨_, rfl, ?_⟩
                      have n0_ := Aside0.mk (Kd.R_below (tR HO168) hb)
                      have n1_ := Aside0.mk (Kd.R_below (tR HO171) hb)
                      have n2_ := Aside0.mk (Kd.R_below (tR HO175) hb)
                      have n3_ := Aside0.mk (Kd.R_below (tR HO179) hb)
                      have n4_ := Aside0.mk (Kd.R_below (tR HO184) hb)
                      have n5_ := Aside0.mk (blk_below (g := gb163) (o := .cells #[.int .i64 a0_0, .slice A0_1 l0_1.length c0_1] 76 (0, 0)) (tK BK163) hb)
                      have n6_ := Aside0.mk (blk_below (g := gb176) (o := .cells #[.int .i64 t172, .slice Ao44 t173.length co44] 81 (0, 0)) (tK BK176) hb)
                      have n7_ := Aside0.mk (below_step tB hb)
                      clear HO168
                      clear HO171
                      clear HO175
                      clear HO179
                      clear HO184
                      clear BK163
                      clear BK176
                      clear HB
                      have HO168 := n0_
                      have HO171 := n1_
                      have HO175 := n2_
                      have HO179 := n3_
                      have HO184 := n4_
                      have BK163 := n5_
                      have BK176 := n6_
                      have HB := n7_
                      clear n0_ n1_ n2_ n3_ n4_ n5_ n6_ n7_
                      (try clear hb)
                      (try clear hb2)
                      (try clear hk)
                      (try clear hi)
                      refine hK.out _ _ ⟨(blk_cell BK176.out 0).trans rfl, (blk_cell BK176.out 1).trans rfl, (blk_cell BK163.out 0).trans rfl, (blk_cell BK163.out 1).trans rfl⟩ (fun hHeld => ?_)
                      clear hK K
                      refine norm_ (a' := ?_) ?_ ?_
                      rotate_left
                      · show Act.put _ (some 34) _ = _
                        simp only [Act.put, List.setIfInBounds_toArray, List.set_cons_zero, List.set_cons_succ, i64_w, i32_w]
                        rfl
                      refine pure_ (i := 4) (N := some 35) (v := ?_) (a' := ?_) #[true, true, true, true, true] rfl rfl (by kernel_rfl) (fun _ _ _ h => h) (Or.inl ⟨by rfl, ?_⟩) ?_ ?_
                      rotate_left
                      · intro w'
                        go_simp
                        with_reducible rfl
                      rotate_left
                      · simp only [Act.put, List.setIfInBounds_toArray, List.set_cons_zero, List.set_cons_succ, i64_w, i32_w]
                        rfl
                      refine done_ (by kernel_rfl) ?_
                      obtain ⟨hcz52_0, hcz52_1, hfz52_0, hfz52_1⟩ := bc2 BK176.out
                      try go_wp2_with (first | ((with_reducible refine gate_callee (f := 54) rfl ?_); refine goesL_ (some 38) rfl rfl Try.func54 (by kernel_rfl) rfl #[.agg #[.int .i64 t172, .slice Ao44 t173.length co44], .int .i64 1] rfl tL ?_; (with_reducible refine (laws_markClaimList.calls k t172 (fun k_ => some k_ = (.slice Ao44 t173.length co44 : Value).ownBlock) (.slice Ao44 t173.length co44) t173 1 t186 t187 w _ ?side1 ?side2 A17.out).mono ?_); (case side1 => exact tB); (case side2 => exact Kd.R_tight rfl HO175.out); rintro e w53 ⟨rfl, hy0, hb, hkp⟩; refine ⟨_, rfl, ?_⟩; have n0_ := Aside0.mk (blk_kept (tK BK163) hkp (fun hs_ => (fun e_ => (Kd.R_ne HO175.out BK163.out (by decide)) e_) hs_)); have n1_ := Aside0.mk (Kd.R_mono (ok' := fun k_ => some k_ ≠ (.slice Ao44 t173.length co44 : Value).ownBlock ∧ some k_ ≠ (.slice Ao50 t182.length co50 : Value).ownBlock) (Kd.R_keptB (HO168.out) hkp tN) tP); have n2_ := Aside0.mk (Kd.R_mono (ok' := fun k_ => some k_ ≠ (.slice Ao46 t177.length co46 : Value).ownBlock) (Kd.R_keptB ((Kd.R_apart' HO171.out (Kd.R_typed HO175.out) (by decide))) hkp tN) tP); have n3_ := Aside0.mk (Kd.R_reok rfl hy0 (fun k_ e_ => HO175.out.1 k_ e_)); have n4_ := Aside0.mk (blk_kept (tK BK176) hkp (fun hs_ => (fun e_ => (Kd.R_ne HO175.out BK176.out (by decide)) e_) hs_)); have n5_ := Aside0.mk (Kd.R_mono (ok' := fun k_ => some k_ ≠ (.slice Ao47 t169.length co47 : Value).ownBlock) (Kd.R_keptB ((Kd.R_apart' HO179.out (Kd.R_typed HO175.out) (by decide))) hkp tN) tP); have n6_ := Aside0.mk (Kd.R_mono (ok' := fun k_ => some k_ ≠ (.slice Ao37 t166.length co37 : Value).ownBlock ∧ some k_ ≠ (.slice Ao44 t173.length co44 : Value).ownBlock) (Kd.R_keptB (HO184.out) hkp tN) tP); have n7_ := Aside0.mk (hb); clear BK163; clear HO168; clear HO171; clear HO175; clear BK176; clear HO179; clear HO184; clear HB; have BK163 := n0_; have HO168 := n1_; have HO171 := n2_; have HO175 := n3_; have BK176 := n4_; have HO179 := n5_; have HO184 := n6_; have HB := n7_; clear n0_ n1_ n2_ n3_ n4_ n5_ n6_ n7_; (try clear hb); (try clear hkp); (try clear hy0)) | (go_at_call 34; (with_reducible refine (laws_eqIntS.calls k _ _ t177 _ _ t169 true _ ?side1 ?side2 ?side3 ?side4 A19.out).mono ?_); (case side1 => repeat (first | exact (Kd.R_reads' HO179.out).2.2 | (with_reducible refine Kd.C_alloc ?_ _) | (with_reducible refine Kd.C_drewN ?_ _) | (with_reducible refine Kd.C_drew ?_))); (case side2 => exact (Kd.R_reads' HO179.out).2.1); (case side3 => repeat (first | exact (Kd.R_reads' HO171.out).2.2 | (with_reducible refine Kd.C_alloc ?_ _) | (with_reducible refine Kd.C_drewN ?_ _) | (with_reducible refine Kd.C_drew ?_))); (case side4 => exact (Kd.R_reads' HO171.out).2.1); rintro e w' ⟨rfl, ⟨nd, rfl⟩⟩) | ((with_reducible refine gate_callee (f := 37) rfl ?_); refine goesL_ (some 49) rfl rfl Try.func37 (by kernel_rfl) rfl #[.slice Ao46 t177.length co46, .int .i64 1] rfl tL ?_; (with_reducible refine (laws_markIntS.calls k (fun k_ => some k_ = (.slice Ao46 t177.length co46 : Value).ownBlock) (.slice Ao46 t177.length co46) t177 1 t189 t190 w _ ?side1 ?side2 A21.out).mono ?_); (case side1 => exact tB); (case side2 => exact Kd.R_tight rfl HO179.out); rintro e w54 ⟨rfl, hy0, hb, hkp⟩; refine ⟨_, rfl, ?_⟩; have n0_ := Aside0.mk (blk_kept (tK BK163) hkp (fun hs_ => (fun e_ => (Kd.R_ne HO179.out BK163.out (by decide)) e_) hs_)); have n1_ := Aside0.mk (Kd.R_mono (ok' := fun k_ => some k_ ≠ (.slice Ao44 t173.length co44 : Value).ownBlock ∧ some k_ ≠ (.slice Ao50 t182.length co50 : Value).ownBlock) (Kd.R_keptB ((Kd.R_apart' HO168.out (Kd.R_typed HO179.out) (by decide))) hkp tN) tP); have n2_ := Aside0.mk (Kd.R_mono (ok' := fun k_ => some k_ ≠ (.slice Ao46 t177.length co46 : Value).ownBlock) (Kd.R_keptB (HO171.out) hkp tN) tP); have n3_ := Aside0.mk (Kd.R_mono (ok' := fun k_ => some k_ ≠ (.slice Ao37 t166.length co37 : Value).ownBlock ∧ some k_ ≠ (.slice Ao50 t182.length co50 : Value).ownBlock) (Kd.R_keptB ((Kd.R_apart' HO175.out (Kd.R_typed HO179.out) (by decide))) hkp tN) tP); have n4_ := Aside0.mk (blk_kept (tK BK176) hkp (fun hs_ => (fun e_ => (Kd.R_ne HO179.out BK176.out (by decide)) e_) hs_)); have n5_ := Aside0.mk (Kd.R_reok rfl hy0 (fun k_ e_ => HO179.out.1 k_ e_)); have n6_ := Aside0.mk (Kd.R_mono (ok' := fun k_ => some k_ ≠ (.slice Ao37 t166.length co37 : Value).ownBlock ∧ some k_ ≠ (.slice Ao44 t173.length co44 : Value).ownBlock) (Kd.R_keptB ((Kd.R_apart' HO184.out (Kd.R_typed HO179.out) (by decide))) hkp tN) tP); have n7_ := Aside0.mk (hb); clear BK163; clear HO168; clear HO171; clear HO175; clear BK176; clear HO179; clear HO184; clear HB; have BK163 := n0_; have HO168 := n1_; have HO171 := n2_; have HO175 := n3_; have BK176 := n4_; have HO179 := n5_; have HO184 := n6_; have HB := n7_; clear n0_ n1_ n2_ n3_ n4_ n5_ n6_ n7_; (try clear hb); (try clear hkp); (try clear hy0)) | ((with_reducible refine gate_callee (f := 38) rfl ?_); refine goesL_ (some 52) rfl rfl Try.func38 (by kernel_rfl) rfl #[.slice Ao46 t190.length co46, .int .i64 1] rfl (by (try simp only [List.map_toArray, List.map_cons, List.map_nil]); first | done | (rw [show t190.length = t177.length from (Kd.R_reads' HO179.out).1.symm] <;> rfl) | rfl | (simp only [List.length_drop, List.length_take]; rfl)) ?_; (with_reducible refine (laws_heldIntS.calls k _ _ t190 1 t191 _ ?side1 ?side2 A22.out).mono ?_); (case side1 => repeat (first | exact (Kd.R_reads' HO179.out).2.2 | (with_reducible refine Kd.C_alloc ?_ _) | (with_reducible refine Kd.C_drewN ?_ _) | (with_reducible refine Kd.C_drew ?_))); (case side2 => rw [show t190.length = t177.length from (Kd.R_reads' HO179.out).1.symm]; exact (Kd.R_reads' HO179.out).2.1); rintro e w' ⟨rfl, ⟨nd, rfl⟩⟩; refine ⟨_, rfl, ?_⟩; obtain ⟨hcz55_0, hcz55_1, hfz55_0, hfz55_1⟩ := bc2 BK163.out) | ((with_reducible refine gate_callee (f := 51) rfl ?_); refine goesL_ (some 59) rfl rfl Try.func51 (by kernel_rfl) rfl #[.agg #[.int .i64 a0_0, .slice A0_1 l0_1.length c0_1]] rfl tL ?_; (with_reducible refine (laws_toClaimList.calls k a0_0 _ _ l0_1 t192 t193 _ ?side1 ?side2 A25.out).mono ?_); (case side1 => repeat (first | exact (Kd.C_below HR0_1.out tB) | (with_reducible refine Kd.C_alloc ?_ _) | (with_reducible refine Kd.C_drewN ?_ _) | (with_reducible refine Kd.C_drew ?_))); (case side2 => exact HC0_1.out); rintro e w56 ⟨v194, rfl, ho0, hb⟩; refine ⟨_, rfl, ?_⟩; have n0_ := Aside0.mk (Kd.R_elder' (tR HO168) (Kd.R_base ho0) hb); have n1_ := Aside0.mk (Kd.R_below (tR HO171) hb); have n2_ := Aside0.mk (Kd.R_elder' (tR HO175) (Kd.R_base ho0) hb); have n3_ := Aside0.mk (Kd.R_below (tR HO179) hb); have n4_ := Aside0.mk (Kd.R_elder' (tR HO184) (Kd.R_base ho0) hb); have n5_ := Aside0.mk (Kd.R_lower (Kd.R_new' (Kd.R_new' (Kd.R_new' ho0 (Kd.R_lt (tR HO168))) (Kd.R_lt (tR HO175))) (Kd.R_lt (tR HO184))) (below_size tB)); have n6_ := Aside0.mk (blk_below (g := gb163) (o := .cells #[.int .i64 a0_0, .slice A0_1 l0_1.length c0_1] 76 (0, 0)) (tK BK163) hb); have n7_ := Aside0.mk (blk_below (g := gb176) (o := .cells #[.int .i64 t172, .slice Ao44 t173.length co44] 81 (0, 0)) (tK BK176) hb); have n8_ := Aside0.mk (below_step tB hb); clear HO168; clear HO171; clear HO175; clear HO179; clear HO184; clear BK163; clear BK176; clear HB; have HO168 := n0_; have HO171 := n1_; have HO175 := n2_; have HO179 := n3_; have HO184 := n4_; have HO195 := n5_; have BK163 := n6_; have BK176 := n7_; have HB := n8_; clear n0_ n1_ n2_ n3_ n4_ n5_ n6_ n7_ n8_; (try clear hb); (try clear hb2); (try clear hk); (try clear hi); (try clear ho0); obtain ⟨Ao57, co57, eo57⟩ := Kd.R_slice HO195.out; subst eo57) | ((with_reducible refine gate_callee (f := 52) rfl ?_); refine goesL_ (some 61) rfl rfl Try.func52 (by kernel_rfl) rfl #[.agg #[.int .i64 t192, .slice Ao57 t193.length co57], .int .i64 a1] rfl tL ?_; (with_reducible refine (impl_OpenClaims.calls k t192 _ _ t193 a1 t196 _ ?side1 ?side2 A26.out).mono ?_); (case side1 => repeat (first | exact (Kd.R_reads' HO195.out).2.2 | (with_reducible refine Kd.C_alloc ?_ _) | (with_reducible refine Kd.C_drewN ?_ _) | (with_reducible refine Kd.C_drew ?_))); (case side2 => exact (Kd.R_reads' HO195.out).2.1); rintro e w58 ⟨v197, rfl, ho0, hb⟩; refine ⟨_, rfl, ?_⟩; have n0_ := Aside0.mk (Kd.R_below (tR HO168) hb); have n1_ := Aside0.mk (Kd.R_elder' (tR HO171) (Kd.R_base ho0) hb); have n2_ := Aside0.mk (Kd.R_below (tR HO175) hb); have n3_ := Aside0.mk (Kd.R_elder' (tR HO179) (Kd.R_base ho0) hb); have n4_ := Aside0.mk (Kd.R_below (tR HO184) hb); have n5_ := Aside0.mk (Kd.R_below (tR HO195) hb); have n6_ := Aside0.mk (Kd.R_lower (Kd.R_new' (Kd.R_new' ho0 (Kd.R_lt (tR HO171))) (Kd.R_lt (tR HO179))) (below_size tB)); have n7_ := Aside0.mk (blk_below (g := gb163) (o := .cells #[.int .i64 a0_0, .slice A0_1 l0_1.length c0_1] 76 (0, 0)) (tK BK163) hb); have n8_ := Aside0.mk (blk_below (g := gb176) (o := .cells #[.int .i64 t172, .slice Ao44 t173.length co44] 81 (0, 0)) (tK BK176) hb); have n9_ := Aside0.mk (below_step tB hb); clear HO168; clear HO171; clear HO175; clear HO179; clear HO184; clear HO195; clear BK163; clear BK176; clear HB; have HO168 := n0_; have HO171 := n1_; have HO175 := n2_; have HO179 := n3_; have HO184 := n4_; have HO195 := n5_; have HO198 := n6_; have BK163 := n7_; have BK176 := n8_; have HB := n9_; clear n0_ n1_ n2_ n3_ n4_ n5_ n6_ n7_ n8_ n9_; (try clear hb); (try clear hb2); (try clear hk); (try clear hi); (try clear ho0); obtain ⟨Ao59, co59, eo59⟩ := Kd.R_slice HO198.out; subst eo59) | ((with_reducible refine gate_callee (f := 34) rfl ?_); refine goesL_ (some 64) rfl rfl Try.func34 (by kernel_rfl) rfl #[.slice Ao59 t196.length co59, .slice Ao47 t169.length co47] rfl tL ?_; (with_reducible refine (laws_eqIntS.calls k _ _ t196 _ _ t169 true _ ?side1 ?side2 ?side3 ?side4 A27.out).mono ?_); (case side1 => repeat (first | exact (Kd.R_reads' HO198.out).2.2 | (with_reducible refine Kd.C_alloc ?_ _) | (with_reducible refine Kd.C_drewN ?_ _) | (with_reducible refine Kd.C_drew ?_))); (case side2 => exact (Kd.R_reads' HO198.out).2.1); (case side3 => repeat (first | exact (Kd.R_reads' HO171.out).2.2 | (with_reducible refine Kd.C_alloc ?_ _) | (with_reducible refine Kd.C_drewN ?_ _) | (with_reducible refine Kd.C_drew ?_))); (case side4 => exact (Kd.R_reads' HO171.out).2.1); rintro e w' ⟨rfl, ⟨nd, rfl⟩⟩; refine ⟨_, rfl, ?_⟩) | ((with_reducible refine gate_callee (f := 38) rfl ?_); refine goesL_ (some 68) rfl rfl Try.func38 (by kernel_rfl) rfl #[.slice Ao46 t190.length co46, .int .i64 1] rfl (by (try simp only [List.map_toArray, List.map_cons, List.map_nil]); first | done | (rw [show t190.length = t177.length from (Kd.R_reads' HO179.out).1.symm] <;> rfl) | rfl | (simp only [List.length_drop, List.length_take]; rfl)) ?_; (with_reducible refine (laws_heldIntS.calls k _ _ t190 1 t200 _ ?side1 ?side2 A29.out).mono ?_); (case side1 => repeat (first | exact (Kd.R_reads' HO179.out).2.2 | (with_reducible refine Kd.C_alloc ?_ _) | (with_reducible refine Kd.C_drewN ?_ _) | (with_reducible refine Kd.C_drew ?_))); (case side2 => rw [show t190.length = t177.length from (Kd.R_reads' HO179.out).1.symm]; exact (Kd.R_reads' HO179.out).2.1); rintro e w' ⟨rfl, ⟨nd, rfl⟩⟩; refine ⟨_, rfl, ?_⟩))
                      go_ret
                      exact ⟨tE, tB⟩
                    · rw [if_neg c31] at H
                      have c31b0 : (t200 == t189) = false := beq_eq_false_iff_ne.mpr c31
                      have c31b1 : (t200 != t189) = true := bne_iff_ne.mpr c31
                      exact absurd ((Option.some.inj H).trans hT_) (by decide)
                · replace c28 := Bool.eq_false_iff.mpr c28
                  subst c28
                  have H1 : (some false) = some r := by rw [if_neg (show ¬ (false = true) by decide)] at H; exact H
                  clear H
                  have H := H1
                  clear H1
                  exact absurd ((Option.some.inj H).trans hT_) (by decide)
              · rw [if_neg c24] at H
                have c24b0 : (t191 == t189) = false := beq_eq_false_iff_ne.mpr c24
                have c24b1 : (t191 != t189) = true := bne_iff_ne.mpr c24
                exact absurd ((Option.some.inj H).trans hT_) (by decide)
          · replace c20 := Bool.eq_false_iff.mpr c20
            subst c20
            have H1 : (some false) = some r := by rw [if_neg (show ¬ (false = true) by decide)] at H; exact H
            clear H
            have H := H1
            clear H1
            exact absurd ((Option.some.inj H).trans hT_) (by decide)
      · replace c16 := Bool.eq_false_iff.mpr c16
        subst c16
        have H1 : (some false) = some r := by rw [if_neg (show ¬ (false = true) by decide)] at H; exact H
        clear H
        have H := H1
        clear H1
        exact absurd ((Option.some.inj H).trans hT_) (by decide)
    · replace c13 := Bool.eq_false_iff.mpr c13
      subst c13
      have H1 : (some false) = some r := by rw [if_neg (show ¬ (false = true) by decide)] at H; exact H
      clear H
      have H := H1
      clear H1
      exact absurd ((Option.some.inj H).trans hT_) (by decide)

end Go.Proofs.Ytanoaneoanpkkaa.ZFnExactOpenClaims
