/- The machine side: for each Go function a Lean function and the contract that the Go code answers as it does; printed by program (wip/tmpl/pprint.sh). -/
import Derived.Test.YtanoaneoanpkkaaZFnExactSendNoticex0
import Derived.Test.YtanoaneoanpkkaaZFnExactSendNoticex2
namespace Go.Proofs.Ytanoaneoanpkkaa.ZFnExactSendNotice
open Go.RowKit Go.Proofs.YtanoaneoanpkkaaW.PrintWords Go.Proofs.YtanoaneoanpkkaaW.PrintLast Go.Proofs.YtanoaneoanpkkaaW.PrintMore
attribute [local go_sem] max2_int min2_int max_two min_two max_three min_three max_four min_four   -- for this text's walks alone
set_option linter.unusedVariables false
set_option linter.unusedSimpArgs false

/-! ### spec_SendNotice: function 57 -/
mutual
def spec_SendNotice.j1 : Nat → List (S108) → List (S108) → Option ((List (S108)) × Bool)
 | 0, _, _ => none
 | k + 1, x10, x158000 => (spec_IsValidMailbox.f k x158000).bind fun t187 => (if t187 = true then ((spec_IsValidMailbox.f k x10).bind fun t188 => (if t188 = true then (some (x10, true)) else ((spec_l31Copy.f x158000).bind fun t189 => (some (t189, false))))) else ((spec_l31Copy.f x158000).bind fun t192 => (some (t192, false))))
def spec_SendNotice.l0 : Nat → List (S108) → Int → Int → List (S108) → Option ((List (S108)) × Bool)
 | 0, _, _, _, _ => none
 | k + 1, x10, x11, x12, x158000 => if x12 ≥ 0 then (if 0 ≤ x12 then (if x12 < (x10.length : Int) then (if (rd_T108 x10 x12).f3 = true then (spec_SendNotice.l0 k x10 x12 (wrap64 (x12 - 1)) x158000) else (spec_SendNotice.l0 k x10 x11 (wrap64 (x12 - 1)) x158000)) else (none)) else (none)) else ((some (([] : List (S108)) : List (S108))).bind fun y169 => (if 0 ≤ x11 then (if x11 ≤ (x10.length : Int) then ((some (x10.take (x11 : Int).toNat : List (S108))).bind fun y172 => (if y169.length + y172.length < 4398046511104 then ((some (y169 ++ y172 : List (S108))).bind fun y176 => (if 0 ≤ (wrap64 (x11 + 1)) then (if (wrap64 (x11 + 1)) ≤ (x10.length : Int) then ((some (x10.drop ((wrap64 (x11 + 1)) : Int).toNat : List (S108))).bind fun y179 => (if y176.length + y179.length < 4398046511104 then (spec_SendNotice.j1 k (y176 ++ y179) x158000) else (none))) else (none)) else (none))) else (none))) else (none)) else (none)))
end
def spec_SendNotice.f (k : Nat) (l0_0 : List (S108)) (a1 : Int) (a2 : Int) (a3 : Int) : Option ((List (S108)) × Bool) := (some (([] : List (S108)) : List (S108))).bind fun y159 => (if y159.length + l0_0.length < 4398046511104 then ((some (y159 ++ l0_0 : List (S108))).bind fun y162 => (if y162.length < 4398046511104 then ((some (y162 ++ [(⟨a1, a2, a3, false⟩ : S108)] : List (S108))).bind fun y165 => (if (y165.length : Int) > 30 then (spec_SendNotice.l0 k y165 0 (wrap64 ((y165.length : Int) - 1)) l0_0) else (spec_SendNotice.j1 k y165 l0_0))) else (none))) else (none))
theorem spec_SendNotice.mono_l : ∀ k, (∀ y0 y1, LeO (spec_SendNotice.j1 k y0 y1) (spec_SendNotice.j1 (k + 1) y0 y1)) ∧ (∀ y0 y1 y2 y3, LeO (spec_SendNotice.l0 k y0 y1 y2 y3) (spec_SendNotice.l0 (k + 1) y0 y1 y2 y3))
 | 0 => ⟨fun _ _ r h => by simp [spec_SendNotice.j1] at h, fun _ _ _ _ r h => by simp [spec_SendNotice.l0] at h⟩
 | k + 1 => by
  obtain ⟨ih0, ih1⟩ := spec_SendNotice.mono_l k
  refine ⟨?_, ?_⟩
  ·intro y0 y1
   unfold spec_SendNotice.j1
   repeat' first
   | (with_reducible exact ih0 _ _)
   | (with_reducible exact ih1 _ _ _ _)
   | (with_reducible exact spec_IsValidMailbox.mono _ _)
   | (with_reducible exact LeO.refl _)
   | (with_reducible exact LeO.none _)
   | (with_reducible refine LeO.ite ?_ ?_)
   | (with_reducible refine LeO.bind ?_ (fun _ => ?_))
   | exact ih0 _ _
   | exact ih1 _ _ _ _
   | exact spec_IsValidMailbox.mono _ _
   | exact LeO.none _
   | refine LeO.ite ?_ ?_
   | refine LeO.bind ?_ (fun _ => ?_)
  ·intro y0 y1 y2 y3
   unfold spec_SendNotice.l0
   repeat' first
   | (with_reducible exact ih0 _ _)
   | (with_reducible exact ih1 _ _ _ _)
   | (with_reducible exact spec_IsValidMailbox.mono _ _)
   | (with_reducible exact LeO.refl _)
   | (with_reducible exact LeO.none _)
   | (with_reducible refine LeO.ite ?_ ?_)
   | (with_reducible refine LeO.bind ?_ (fun _ => ?_))
   | exact ih0 _ _
   | exact ih1 _ _ _ _
   | exact spec_IsValidMailbox.mono _ _
   | exact LeO.none _
   | refine LeO.ite ?_ ?_
   | refine LeO.bind ?_ (fun _ => ?_)
theorem spec_SendNotice.mono : ∀ a0 a1 a2 a3 k, LeO (spec_SendNotice.f k a0 a1 a2 a3) (spec_SendNotice.f (k + 1) a0 a1 a2 a3) := by
 intro a0 a1 a2 a3 k
 obtain ⟨ih0, ih1⟩ := spec_SendNotice.mono_l k
 unfold spec_SendNotice.f
 repeat' first
   | (with_reducible exact ih0 _ _)
   | (with_reducible exact ih1 _ _ _ _)
   | (with_reducible exact spec_IsValidMailbox.mono _ _)
   | (with_reducible exact LeO.refl _)
   | (with_reducible exact LeO.none _)
   | (with_reducible refine LeO.ite ?_ ?_)
   | (with_reducible refine LeO.bind ?_ (fun _ => ?_))
   | exact ih0 _ _
   | exact ih1 _ _ _ _
   | exact spec_IsValidMailbox.mono _ _
   | exact LeO.none _
   | refine LeO.ite ?_ ?_
   | refine LeO.bind ?_ (fun _ => ?_)
def spec_SendNotice.T10 : Bool × List (List Nat × List Nat) := (true, [([], []), ([], []), ([], []), ([1, 2], [1, 2]), ([0, 3], [0, 3]), ([], []), ([], []), ([6], [6]), ([5, 7], [5, 7]), ([4, 8, 4], [4, 8]), ([9, 9, 0, 1, 2, 3, 4, 5, 6, 7, 8, 9], [1, 5, 9])])
def spec_SendNotice.B10 : List Nat := [0, 0, 0, 6, 15, 0, 0, 64, 224, 511, 1023]
theorem spec_SendNotice.tab10 : rtab .any (opsOf Try.f57 10) = spec_SendNotice.T10 := by kernel_rfl
theorem spec_SendNotice.bits10 : waitsOk spec_SendNotice.T10.2 spec_SendNotice.B10 = true := by kernel_rfl
set_option maxHeartbeats 8000000 in
set_option maxRecDepth 100000 in
theorem spec_SendNotice.calls (k : Nat) (A0_0 : Option Addr) (c0_0 : Nat) (l0_0 : List (S108)) (a1 : Int) (a2 : Int) (a3 : Int) (r1 : List (S108)) (r2 : Bool) (w : World) (hr0_0 : Kd.C k108 w A0_0 l0_0.length l0_0) (hc0_0 : l0_0.length ≤ c0_0) (h : spec_SendNotice.f k l0_0 a1 a2 a3 = some (r1, r2)) :
  Calls Try.prog 57 #[.agg #[.slice A0_0 l0_0.length c0_0], .int .i64 a1, .int .i64 a2, .int .i64 a3] w fun e w' => ∃ v0_ : Value, e = .returned (.tuple #[.agg #[v0_], .bool r2]) ∧ Kd.R k108 108 w' w.heap.size (fun _ => True) v0_ r1 ∧ Below w.heap.size w w' := by
 have hu65 := Try.underlying65
 have hu108 := Try.underlying108
 have HR0_0 := Aside0.mk hr0_0
 have HC0_0 := Aside0.mk hc0_0
 clear hr0_0 hc0_0
 have HB := Aside0.mk (Below.refl w.heap.size w)
 have H : ((some (([] : List (S108)) : List (S108))).bind fun y159 => (if y159.length + l0_0.length < 4398046511104 then ((some (y159 ++ l0_0 : List (S108))).bind fun y162 => (if y162.length < 4398046511104 then ((some (y162 ++ [(⟨a1, a2, a3, false⟩ : S108)] : List (S108))).bind fun y165 => (if (y165.length : Int) > 30 then (spec_SendNotice.l0 k y165 0 (wrap64 ((y165.length : Int) - 1)) l0_0) else (spec_SendNotice.j1 k y165 l0_0))) else (none))) else (none))) = some (r1, r2) := h
 clear h
 obtain ⟨y159, hy159⟩ : ∃ y_ : List (S108), y_ = (([] : List (S108))) := ⟨_, rfl⟩
 replace H : (if y159.length + l0_0.length < 4398046511104 then ((some (y159 ++ l0_0 : List (S108))).bind fun y162 => (if y162.length < 4398046511104 then ((some (y162 ++ [(⟨a1, a2, a3, false⟩ : S108)] : List (S108))).bind fun y165 => (if (y165.length : Int) > 30 then (spec_SendNotice.l0 k y165 0 (wrap64 ((y165.length : Int) - 1)) l0_0) else (spec_SendNotice.j1 k y165 l0_0))) else (none))) else (none)) = some (r1, r2) := by first | (rw [hy159]; with_reducible exact H) | (have H2_ := (Option.bind_some _ _).symm.trans H; rw [hy159]; with_reducible exact H2_) | (have H2_ := (Option.bind_some _ _).symm.trans H; with_reducible exact H2_) | with_reducible exact H | (rw [hy159]; exact H) | exact H
 have Ny159 := Aside0.mk hy159
 clear hy159
 by_cases c5 : y159.length + l0_0.length < 4398046511104
 ·rw [if_pos c5] at H
  have LMc5 := Aside0.mk c5
  clear c5
  obtain ⟨y162, hy162⟩ : ∃ y_ : List (S108), y_ = (y159 ++ l0_0) := ⟨_, rfl⟩
  replace H : (if y162.length < 4398046511104 then ((some (y162 ++ [(⟨a1, a2, a3, false⟩ : S108)] : List (S108))).bind fun y165 => (if (y165.length : Int) > 30 then (spec_SendNotice.l0 k y165 0 (wrap64 ((y165.length : Int) - 1)) l0_0) else (spec_SendNotice.j1 k y165 l0_0))) else (none)) = some (r1, r2) := by first | (rw [hy162]; with_reducible exact H) | (have H2_ := (Option.bind_some _ _).symm.trans H; rw [hy162]; with_reducible exact H2_) | (have H2_ := (Option.bind_some _ _).symm.trans H; with_reducible exact H2_) | with_reducible exact H | (rw [hy162]; exact H) | exact H
  have Ny162 := Aside0.mk hy162
  clear hy162
  by_cases c6 : y162.length < 4398046511104
  ·rw [if_pos c6] at H
   have LMc6 := Aside0.mk c6
   clear c6
   obtain ⟨y165, hy165⟩ : ∃ y_ : List (S108), y_ = (y162 ++ [(⟨a1, a2, a3, false⟩ : S108)]) := ⟨_, rfl⟩
   replace H : (if (y165.length : Int) > 30 then (spec_SendNotice.l0 k y165 0 (wrap64 ((y165.length : Int) - 1)) l0_0) else (spec_SendNotice.j1 k y165 l0_0)) = some (r1, r2) := by first | (rw [hy165]; with_reducible exact H) | (have H2_ := (Option.bind_some _ _).symm.trans H; rw [hy165]; with_reducible exact H2_) | (have H2_ := (Option.bind_some _ _).symm.trans H; with_reducible exact H2_) | with_reducible exact H | (rw [hy165]; exact H) | exact H
   have Ny165 := Aside0.mk hy165
   clear hy165
   have HC7 := Aside0.mk H
   clear H
   go_enter Try.func57, Try.ntmps57
   go_upto_if 27 with (first | ((with_reducible refine gate_dst (N := 4) rfl ?_); refine box_event ?hg (N := 4) ?hd (cs := #[.slice A0_0 l0_0.length c0_0]) (t := 65) ?hr ?_; (case hd => rfl); (case hg => rfl); (case hr => exact tG); intro gb157 hg w8 hbox hb; have BK157 := Aside0.mk (hbox); have GW157 := gW HB hg; have GE157 := gW HB hg; replace HB := bH HB hb; clear hb hbox hg) | ((with_reducible refine gate_dst (N := 8) rfl ?_); refine box_event ?hg (N := 8) ?hd (cs := #[.slice none 0 0]) (t := 65) ?hr ?_; (case hd => rfl); (case hg => rfl); (case hr => exact tG); intro gb158 hg w9 hbox hb; have BK158 := Aside0.mk (hbox); have GW158 := gW HB hg; have GE158 := gW HB hg; replace HB := bH HB hb; have NB157_158 := nL BK157 hg; have NB158_157 := nR BK157 hg; replace BK157 := bB BK157 hb; clear hb hbox hg) | ((with_reducible refine gate_dst (N := 14) rfl ?_); refine Kd.R_lit k108 _ 108 ?hg (N := 14) ?hd (xs := ([] : List (S108))) (inner := []) (ok := fun _ => True) (okp := fun _ => True) ?hr ?hp (fun _ hk => hk) trivial (Below.refl _ _) (Nat.le_refl _) (by simp) ?_; (case hd => rfl); (case hg => rfl); (case hr => exact tG); (case hp => exact (Reps.none _ _)); intro v160 w10 ho11 hb hg_ hnew_; clear hg_ hnew_; (first | rw [← Ny159.out] at ho11 | (simp only [Int.reduceToNat] at ho11; rw [← Ny159.out] at ho11)); have HO161 := Aside0.mk (Kd.R_lower ho11 (below_size tB)); replace BK157 := bB BK157 hb; replace BK158 := bB BK158 hb; replace HB := bH HB hb; clear hb ho11; have hnb12 := NB157_158.out; have hnc12 := NB158_157.out; obtain ⟨hcz13_0, hfz13_0⟩ := bc1 BK157.out) | ((with_reducible refine gate_builtin (b := .append) (xs := #[.tmp 14, .tmp 16]) rfl ?_); at_builtin; refine Kd.R_append_rows k108 (w0 := w) w.heap.size rfl (.tmp 14) (.tmp 16) 63 108 (.agg #[(.int .i64 0), (.int .i64 0), (.int .i64 0), (.bool false)]) 32 rfl Try.underlying63 info108 rfl (by decide) (by omega) v160 y159 l0_0 _ _ _ (fun _ => True) (fun _ => False) rfl rfl ?aO ?aR (fun _ _ h => h) (fun _ h => h.elim) ?aF ?aB ?aS ?aL ?_; (case aR => repeat (first | exact (Kd.C_below HR0_0.out HB.out) | (with_reducible refine Kd.C_alloc ?_ _) | (with_reducible refine Kd.C_drewN ?_ _) | (with_reducible refine Kd.C_drew ?_))); (case aB => exact tB); (case aF => exact (fun _ _ => trivial)); (case aO => exact (tR HO161)); (case aS => exact (below_size tB)); (case aL => have := LMc5.out; omega); intro v163 w14 ho hb hg hat; rw [← Ny162.out] at ho; replace BK157 := Aside0.mk (blk_grown (g := gb157) (o := .cells #[.slice A0_0 l0_0.length c0_0] 65 (0, 0)) (tK BK157) hg (Kd.R_ne HO161.out BK157.out (by decide))); replace BK158 := Aside0.mk (blk_grown (g := gb158) (o := .cells #[.slice none 0 0] 65 (0, 0)) (tK BK158) hg (Kd.R_ne HO161.out BK158.out (by decide))); replace HB := Aside0.mk (hb); have HO164 := Aside0.mk (ho); clear HO161; clear ho hb hg hat) | ((with_reducible refine gate_builtin (b := .append) (xs := #[.tmp 18, .tmp 23]) rfl ?_); at_builtin; refine Kd.R_append k108 (w0 := w) w.heap.size rfl (.tmp 18) (.tmp 23) 63 108 (.agg #[(.int .i64 0), (.int .i64 0), (.int .i64 0), (.bool false)]) 32 rfl Try.underlying63 info108 rfl (by decide) (by omega) v163 y162 (⟨a1, a2, a3, false⟩ : S108) [.int .i64 a1, .int .i64 a2, .int .i64 a3, .bool false] (fun _ => True) (fun _ => False) rfl rfl ?aP (fun _ hk => hk.elim) ?aF ?aO ?aB ?aS ?aL ?_; (case aP => exact k108_mkM _ _ _ (⟨a1, a2, a3, false⟩ : S108)); (case aB => exact tB); (case aF => exact (fun _ _ => trivial)); (case aO => exact (tR HO164)); (case aS => exact (below_size tB)); (case aL => have := LMc6.out; omega); intro v166 w15 ho hb hg hat; rw [← Ny165.out] at ho; replace BK157 := Aside0.mk (blk_grown (g := gb157) (o := .cells #[.slice A0_0 l0_0.length c0_0] 65 (0, 0)) (tK BK157) hg (Kd.R_ne HO164.out BK157.out (by decide))); replace BK158 := Aside0.mk (blk_grown (g := gb158) (o := .cells #[.slice none 0 0] 65 (0, 0)) (tK BK158) hg (Kd.R_ne HO164.out BK158.out (by decide))); replace HB := Aside0.mk (hb); have HO167 := Aside0.mk (ho); clear HO164; clear ho hb hg hat; obtain ⟨Ao16, co16, eo16⟩ := Kd.R_slice HO167.out; subst eo16))
   (try simp only [Act.put, List.setIfInBounds_toArray, List.set_cons_zero, List.set_cons_succ])
   go_cut [10] (fun v10 wc => ∃ (kq : Nat) (x10_6 : List (S108)), Aside0 (spec_SendNotice.j1 kq x10_6 l0_0 = some (r1, r2)) ∧ Aside0 (kq ≤ k) ∧ Aside0 (Kd.R k108 108 wc w.heap.size (fun _ => True) v10 x10_6) ∧ Aside0 (wc.heap[gb157]? = some (.cells #[(.slice A0_0 l0_0.length c0_0)] 65 (0, 0))) ∧ Aside0 (wc.heap[gb158]? = some (.cells #[(.slice none 0 0)] 65 (0, 0))) ∧ Aside0 (Below w.heap.size w wc))
   case first =>
    have H := HC7.out
    clear HC7
    by_cases c17 : (y165.length : Int) > 30
    ·rw [if_pos c17] at H
     have c17b0 : decide (30 < (y165.length : Int)) = true := decide_eq_true c17
     have c17b1 : decide (30 < y165.length) = true := decide_eq_true (by omega)
     clear c17
     (first | rw [c17b0] | (simp only [i64_w, i32_w]; rw [c17b0]) | skip)
     have H' := Aside0.mk H
     clear H
     go_wp2
     go_loopg [11, 12] k (fun kq v11 v12 w' => ∃ (x11_1 : Int) (x12_1 : Int), v11 = .int .i64 x11_1 ∧ v12 = .int .i64 x12_1 ∧ Aside0 (spec_SendNotice.l0 kq y165 x11_1 x12_1 l0_0 = some (r1, r2)) ∧ Aside0 (kq ≤ k) ∧ Aside0 (Kd.R k108 108 w' w.heap.size (fun _ => True) (.slice Ao16 y165.length co16) y165) ∧ Aside0 (w'.heap[gb157]? = some (.cells #[(.slice A0_0 l0_0.length c0_0)] 65 (0, 0))) ∧ Aside0 (w'.heap[gb158]? = some (.cells #[(.slice none 0 0)] 65 (0, 0))) ∧ Aside0 (Below w.heap.size w w'))
     case atStart => exact ⟨(0), (wrap64 ((y165.length : Int) - 1)), tS, tS, H', ⟨Nat.le_refl _⟩, ⟨tR HO167⟩, ⟨tK BK157⟩, ⟨tK BK158⟩, ⟨tB⟩⟩
     case round =>
      clear H'
      try clear c1
      try clear p2
      try clear c5
      try clear c6
      try clear p6
      try clear c12
      try clear c17
      try clear c17b0
      try clear c17b1
      try clear hcz13_0
      try clear hfz13_0
      obtain ⟨x11_1, x12_1, rfl, rfl, HA, HK1, HO_10, BK157, BK158, HB⟩ := hrel
      cases gk with
      | zero => exact absurd HA.out (by simp [spec_SendNotice.l0])
      | succ k1 =>
       have H := HA.out
       clear HA
       simp only [spec_SendNotice.l0] at H
       by_cases c18 : x12_1 ≥ 0
       ·rw [if_pos c18] at H
        have c18b0 : decide (0 ≤ x12_1) = true := decide_eq_true c18
        clear c18
        by_cases c19 : 0 ≤ x12_1
        ·rw [if_pos c19] at H
         have c19b0 : decide (0 ≤ x12_1) = true := decide_eq_true c19
         clear c19
         by_cases c20 : x12_1 < (y165.length : Int)
         ·rw [if_pos c20] at H
          have c20b0 : decide (x12_1 < (y165.length : Int)) = true := decide_eq_true c20
          clear c20
          obtain ⟨bq21, hbq21⟩ : ∃ b_ : Bool, b_ = ((rd_T108 y165 x12_1).f3) := ⟨_, rfl⟩
          replace H : (if bq21 = true then (spec_SendNotice.l0 k1 y165 x12_1 (wrap64 (x12_1 - 1)) l0_0) else (spec_SendNotice.l0 k1 y165 x11_1 (wrap64 (x12_1 - 1)) l0_0)) = some (r1, r2) := by rw [← hbq21] at H; exact H
          have Nbq21 := Aside0.mk hbq21
          clear hbq21
          by_cases c22 : bq21 = true
          ·subst c22
           have H1 : (spec_SendNotice.l0 k1 y165 x12_1 (wrap64 (x12_1 - 1)) l0_0) = some (r1, r2) := by rw [if_pos rfl] at H; exact H
           clear H
           have H := H1
           clear H1
           have H' := Aside0.mk H
           clear H
           have p168 : 0 ≤ (x12_1 : Int) := of_decide_eq_true tA
           have q168 : x12_1 < (y165.length : Int) := of_decide_eq_true tA
           obtain ⟨ad168, e168, hx168_0, hx168_1, hx168_2, hx168_3⟩ := at_T108 (Kd.R_reads' HO_10.out).2.2 x12_1 p168 q168
           (try rw [← Nbq21.out] at hx168_3)
           cases e168
           replace p168 := eq_true p168
           replace q168 := eq_true q168
           go_wp2
           go_roundg k1
           case measure => have := HK1.out; omega
           case rel => exact ⟨(x12_1), (wrap64 (x12_1 - 1)), tS, tS, H', ⟨tI⟩, ⟨tR HO_10⟩, ⟨tK BK157⟩, ⟨tK BK158⟩, ⟨tB⟩⟩
          replace c22 := Bool.eq_false_iff.mpr c22
          subst c22
          have H1 : (spec_SendNotice.l0 k1 y165 x11_1 (wrap64 (x12_1 - 1)) l0_0) = some (r1, r2) := by rw [if_neg (show ¬ (false = true) by decide)] at H; exact H
          clear H
          have H := H1
          clear H1
          have H' := Aside0.mk H
          clear H
          have p168 : 0 ≤ (x12_1 : Int) := of_decide_eq_true tA
          have q168 : x12_1 < (y165.length : Int) := of_decide_eq_true tA
          obtain ⟨ad168, e168, hx168_0, hx168_1, hx168_2, hx168_3⟩ := at_T108 (Kd.R_reads' HO_10.out).2.2 x12_1 p168 q168
          (try rw [← Nbq21.out] at hx168_3)
          cases e168
          replace p168 := eq_true p168
          replace q168 := eq_true q168
          go_wp2
          go_roundg k1
          case measure => have := HK1.out; omega
          case rel => exact ⟨(x11_1), (wrap64 (x12_1 - 1)), tS, tS, H', ⟨tI⟩, ⟨tR HO_10⟩, ⟨tK BK157⟩, ⟨tK BK158⟩, ⟨tB⟩⟩
         rw [if_neg c20] at H
         exact absurd H (by simp)
        rw [if_neg c19] at H
        exact absurd H (by simp)
       rw [if_neg c18] at H
       have c18b0 : decide (0 ≤ x12_1) = false := decide_eq_false c18
       clear c18
       obtain ⟨y169, hy169⟩ : ∃ y_ : List (S108), y_ = (([] : List (S108))) := ⟨_, rfl⟩
       replace H : (if 0 ≤ x11_1 then (if x11_1 ≤ (y165.length : Int) then ((some (y165.take (x11_1 : Int).toNat : List (S108))).bind fun y172 => (if y169.length + y172.length < 4398046511104 then ((some (y169 ++ y172 : List (S108))).bind fun y176 => (if 0 ≤ (wrap64 (x11_1 + 1)) then (if (wrap64 (x11_1 + 1)) ≤ (y165.length : Int) then ((some (y165.drop ((wrap64 (x11_1 + 1)) : Int).toNat : List (S108))).bind fun y179 => (if y176.length + y179.length < 4398046511104 then (spec_SendNotice.j1 k1 (y176 ++ y179) l0_0) else (none))) else (none)) else (none))) else (none))) else (none)) else (none)) = some (r1, r2) := by first | (rw [hy169]; with_reducible exact H) | (have H2_ := (Option.bind_some _ _).symm.trans H; rw [hy169]; with_reducible exact H2_) | (have H2_ := (Option.bind_some _ _).symm.trans H; with_reducible exact H2_) | with_reducible exact H | (rw [hy169]; exact H) | exact H
       have Ny169 := Aside0.mk hy169
       clear hy169
       by_cases c23 : 0 ≤ x11_1
       ·rw [if_pos c23] at H
        have c23b0 := eq_true c23
        have c23b1 : decide (0 ≤ x11_1) = true := decide_eq_true c23
        clear c23
        by_cases c24 : x11_1 ≤ (y165.length : Int)
        ·rw [if_pos c24] at H
         have c24b0 := eq_true c24
         have c24b1 : decide (x11_1 ≤ (y165.length : Int)) = true := decide_eq_true c24
         clear c24
         obtain ⟨y172, hy172⟩ : ∃ y_ : List (S108), y_ = (y165.take (x11_1 : Int).toNat) := ⟨_, rfl⟩
         replace H : (if y169.length + y172.length < 4398046511104 then ((some (y169 ++ y172 : List (S108))).bind fun y176 => (if 0 ≤ (wrap64 (x11_1 + 1)) then (if (wrap64 (x11_1 + 1)) ≤ (y165.length : Int) then ((some (y165.drop ((wrap64 (x11_1 + 1)) : Int).toNat : List (S108))).bind fun y179 => (if y176.length + y179.length < 4398046511104 then (spec_SendNotice.j1 k1 (y176 ++ y179) l0_0) else (none))) else (none)) else (none))) else (none)) = some (r1, r2) := by first | (rw [hy172]; with_reducible exact H) | (have H2_ := (Option.bind_some _ _).symm.trans H; rw [hy172]; with_reducible exact H2_) | (have H2_ := (Option.bind_some _ _).symm.trans H; with_reducible exact H2_) | with_reducible exact H | (rw [hy172]; exact H) | exact H
         have Ny172 := Aside0.mk hy172
         clear hy172
         by_cases c25 : y169.length + y172.length < 4398046511104
         ·rw [if_pos c25] at H
          have LMc25 := Aside0.mk c25
          clear c25
          obtain ⟨y176, hy176⟩ : ∃ y_ : List (S108), y_ = (y169 ++ y172) := ⟨_, rfl⟩
          replace H : (if 0 ≤ (wrap64 (x11_1 + 1)) then (if (wrap64 (x11_1 + 1)) ≤ (y165.length : Int) then ((some (y165.drop ((wrap64 (x11_1 + 1)) : Int).toNat : List (S108))).bind fun y179 => (if y176.length + y179.length < 4398046511104 then (spec_SendNotice.j1 k1 (y176 ++ y179) l0_0) else (none))) else (none)) else (none)) = some (r1, r2) := by first | (rw [hy176]; with_reducible exact H) | (have H2_ := (Option.bind_some _ _).symm.trans H; rw [hy176]; with_reducible exact H2_) | (have H2_ := (Option.bind_some _ _).symm.trans H; with_reducible exact H2_) | with_reducible exact H | (rw [hy176]; exact H) | exact H
          have Ny176 := Aside0.mk hy176
          clear hy176
          obtain ⟨ji26, hji26⟩ : ∃ j_ : Int, (wrap64 (x11_1 + 1)) = j_ := ⟨_, rfl⟩
          replace H : (if 0 ≤ (ji26) then (if (ji26) ≤ (y165.length : Int) then ((some (y165.drop ((ji26) : Int).toNat : List (S108))).bind fun y179 => (if y176.length + y179.length < 4398046511104 then (spec_SendNotice.j1 k1 (y176 ++ y179) l0_0) else (none))) else (none)) else (none)) = some (r1, r2) := by first | (rw [hji26] at H; exact H) | (simp only [hji26] at H ⊢; exact H)
          have hji26w : (IntKind.i64.wrap (x11_1 + 1)) = ji26 := (i64_w _).trans hji26
          by_cases c27 : 0 ≤ (ji26)
          ·rw [if_pos c27] at H
           have c27b0 := eq_true c27
           have c27b1 : decide (0 ≤ (ji26)) = true := decide_eq_true c27
           clear c27
           by_cases c28 : (ji26) ≤ (y165.length : Int)
           ·rw [if_pos c28] at H
            have c28b0 := eq_true c28
            have c28b1 : decide ((ji26) ≤ (y165.length : Int)) = true := decide_eq_true c28
            clear c28
            obtain ⟨y179, hy179⟩ : ∃ y_ : List (S108), y_ = (y165.drop ((ji26) : Int).toNat) := ⟨_, rfl⟩
            replace H : (if y176.length + y179.length < 4398046511104 then (spec_SendNotice.j1 k1 (y176 ++ y179) l0_0) else (none)) = some (r1, r2) := by first | (rw [hy179]; with_reducible exact H) | (have H2_ := (Option.bind_some _ _).symm.trans H; rw [hy179]; with_reducible exact H2_) | (have H2_ := (Option.bind_some _ _).symm.trans H; with_reducible exact H2_) | with_reducible exact H | (rw [hy179]; exact H) | exact H
            have Ny179 := Aside0.mk hy179
            clear hy179
            by_cases c29 : y176.length + y179.length < 4398046511104
            ·rw [if_pos c29] at H
             have LMc29 := Aside0.mk c29
             clear c29
             obtain ⟨y183, hy183⟩ : ∃ y_ : List (S108), y_ = (y176 ++ y179) := ⟨_, rfl⟩
             replace H : (spec_SendNotice.j1 k1 y183 l0_0) = some (r1, r2) := by first | (rw [hy183]; with_reducible exact H) | (have H2_ := (Option.bind_some _ _).symm.trans H; rw [hy183]; with_reducible exact H2_) | (have H2_ := (Option.bind_some _ _).symm.trans H; with_reducible exact H2_) | with_reducible exact H | (rw [hy183]; exact H) | exact H
             have Ny183 := Aside0.mk hy183
             clear hy183
             have H' := Aside0.mk H
             clear H
             try go_wp2
             replace HO_10 := Aside0.mk (Kd.R_drew HO_10.out)
             replace BK157 := Aside0.mk (blk_drew BK157.out)
             replace BK158 := Aside0.mk (blk_drew BK158.out)
             replace HB := Aside0.mk (below_drew1 HB.out)
             have q31 : (x11_1 : Int) ≤ ((y165.length : Int) : Int) := of_decide_eq_true tA
             obtain ⟨i031, hi031, _, hsz31, _⟩ := info_parts info108
             have hroom31 : y165.length ≤ co16 := (Kd.R_reads' HO_10.out).2.1
             have hC31 : Kd.C k108 _ Ao16 y165.length y165 := (Kd.R_reads' HO_10.out).2.2
             have hcut31 := cut_to (P := Try.prog) 63 108 .i64 Try.underlying63 hi031 Ao16 y165.length co16 x11_1 (of_decide_eq_true tA) q31 hroom31
             have hr31 := Kd.C_take (m := (x11_1 : Int).toNat) hC31 (by omega)
             have hy31 : y172.length = (x11_1 : Int).toNat := (by rw [Ny172.out, List.length_take]; omega)
             rw [← Ny172.out] at hr31
             rw [← hy31] at hcut31
             have HR175 := Aside0.mk hr31
             have HC175 := Aside0.mk (show y172.length ≤ co16 from by omega)
             clear hr31 hC31 hroom31 hi031 hsz31
             have KY31 := Aside0.mk hy31
             clear hy31
             have KL31 := Aside0.mk (show (x11_1 : Int).toNat ≤ y165.length from by omega)
             replace q31 := eq_true q31
             have q32 : ((ji26) : Int) ≤ ((y165.length : Int) : Int) := of_decide_eq_true tA
             obtain ⟨i032, hi032, _, hsz32, _⟩ := info_parts info108
             have hroom32 : y165.length ≤ co16 := (Kd.R_reads' HO_10.out).2.1
             have hC32 : Kd.C k108 _ Ao16 y165.length y165 := (Kd.R_reads' HO_10.out).2.2
             have q032 : (0 : Int) ≤ ((ji26) : Int) := of_decide_eq_true tA
             have hcut32 := cut_from (P := Try.prog) 63 108 .i64 Try.underlying63 hi032 4 hsz32 Ao16 y165.length co16 (ji26) q032 q32
             have hr32 := Kd.C_drop (m := ((ji26) : Int).toNat) (c := co16) hC32 (by omega) hroom32
             obtain ⟨A32, hA32⟩ : ∃ A1, A1 = (if co16 = ((ji26) : Int).toNat then Ao16 else (Ao16 : Option Addr).map (·.add (((ji26) : Int).toNat * 4))) := ⟨_, rfl⟩
             obtain ⟨c32, hc32⟩ : ∃ c1, c1 = co16 - ((ji26) : Int).toNat := ⟨_, rfl⟩
             have hy32 : y179.length = y165.length - ((ji26) : Int).toNat := (by rw [Ny179.out, List.length_drop] <;> omega)
             rw [show (y165).drop ((ji26) : Int).toNat = y179 from Ny179.out.symm] at hr32
             replace hr32 : Kd.C k108 _ A32 y179.length y179 := (by rw [hA32]; exact hr32)
             rw [← hy32, ← hA32, ← hc32] at hcut32
             have HR182 := Aside0.mk hr32
             have HC182 := Aside0.mk (show y179.length ≤ c32 from by rw [hy32, hc32]; exact Nat.sub_le_sub_right hroom32 _)
             clear hr32 hC32 hroom32 hi032 hsz32 hc32
             have KY32 := Aside0.mk hy32
             have KA32 := Aside0.mk hA32
             clear hy32 hA32
             have KL32 := Aside0.mk (show ((ji26) : Int).toNat ≤ y165.length from by omega)
             replace q32 := eq_true q32
             refine start_ (n := 11) (S := fun w' => True) (ds := []) #[N_,N_,N_,N_,N_,N_,N_,N_,N_,N_,N_] (by kernel_rfl) rfl rfl trivial (fun hHeld => ?_); refine with_tabW spec_SendNotice.tab10 spec_SendNotice.bits10 (fun HT_ HW_ => ?_)
             generalize wr.drew = w30 at HO_10 BK157 BK158 HB HR175 HR182 hHeld ⊢
             refine pure_ (i := 1) (N := some 42) #[N_,Y_,N_,N_,N_,N_,N_,N_,N_,N_,N_] rfl rfl (any_of HT_.out (by kernel_rfl)) (fun _ _ _ h => h) (Or.inl ⟨by rfl, tX⟩) tV ?_
             refine pure_ (i := 2) (N := some 43) #[N_,Y_,Y_,N_,N_,N_,N_,N_,N_,N_,N_] rfl rfl (any_of HT_.out (by kernel_rfl)) (fun _ _ _ h => h) (Or.inl ⟨by rfl, tX⟩) tV ?_
             refine pure_ (i := 3) (N := some 44) #[N_,Y_,Y_,Y_,N_,N_,N_,N_,N_,N_,N_] rfl rfl (any_of HT_.out (by kernel_rfl)) (fun _ _ _ h => h) (Or.inl ⟨by rfl, tX⟩) tV ?_
             refine pure_ (i := 5) (N := some 46) #[N_,Y_,Y_,Y_,N_,Y_,N_,N_,N_,N_,N_] rfl rfl (any_of HT_.out (by kernel_rfl)) (fun _ _ _ h => h) (Or.inl ⟨by rfl, tX⟩) tV ?_
             refine pure_ (i := 6) (N := some 47) #[N_,Y_,Y_,Y_,N_,Y_,Y_,N_,N_,N_,N_] rfl rfl (any_of HT_.out (by kernel_rfl)) (fun _ _ _ h => h) (Or.inl ⟨by rfl, tX⟩) tV ?_
             refine pure_ (i := 7) (N := some 48) #[N_,Y_,Y_,Y_,N_,Y_,Y_,Y_,N_,N_,N_] rfl rfl (any_of HT_.out (by kernel_rfl)) (fun _ _ _ h => h) (Or.inl ⟨by rfl, tX⟩) tV ?_
             refine pure_ (i := 8) (N := some 49) #[N_,Y_,Y_,Y_,N_,Y_,Y_,Y_,Y_,N_,N_] rfl rfl (any_of HT_.out (by kernel_rfl)) (fun _ _ _ h => h) (Or.inl ⟨by rfl, tX⟩) tV ?_
             refine one_ (i := 0) (N := some 41) #[Y_,Y_,Y_,Y_,N_,Y_,Y_,Y_,Y_,N_,N_] rfl rfl (one_of HT_.out (by kernel_rfl)) (by decide) (fun K hK => ?_)
             refine Kd.R_lit_step k108 _ 108 ?hg (N := 41) ?hd (xs := ([] : List (S108))) (inner := []) (ok := fun _ => True) (okp := fun _ => True) ?hr ?hp (fun _ hk => hk) trivial (Below.refl _ _) (Nat.le_refl _) (by simp) ?_; (case hd => rfl); (case hg => rfl); (case hr => exact tG); (case hp => exact (Reps.none _ _))
             intro v170 w33 ho34 hb hg_ hnew_
             clear hg_ hnew_
             (first | rw [← Ny169.out] at ho34 | (simp only [Int.reduceToNat] at ho34; rw [← Ny169.out] at ho34))
             have HO171 := Aside0.mk (Kd.R_lower (Kd.R_new' ho34 (Kd.R_lt (tR HO_10))) (below_size tB))
             replace HO_10 := Aside0.mk (Kd.R_elder' (tR HO_10) (Kd.R_base ho34) hb)
             replace BK157 := bB BK157 hb
             replace BK158 := bB BK158 hb
             replace HR175 := Aside0.mk (Kd.C_below (by repeat (first | (with_reducible exact HR175.out) | (with_reducible refine Kd.C_alloc ?_ _) | (with_reducible refine Kd.C_drewN ?_ _) | (with_reducible refine Kd.C_drew ?_) | exact HR175.out)) hb)
             replace HR182 := Aside0.mk (Kd.C_below (by repeat (first | (with_reducible exact HR182.out) | (with_reducible refine Kd.C_alloc ?_ _) | (with_reducible refine Kd.C_drewN ?_ _) | (with_reducible refine Kd.C_drew ?_) | exact HR182.out)) hb)
             replace HB := bH HB hb
             clear hb ho34
             refine hK.out _ _ trivial (fun hHeld => ?_)
             clear hK K
             refine norm_ (tV : Act.put _ (some 41) _ = _) ?_
             refine one_ (i := 4) (N := some 45) #[Y_,Y_,Y_,Y_,Y_,Y_,Y_,Y_,Y_,N_,N_] rfl rfl (one_of HT_.out (by kernel_rfl)) (by decide) (fun K hK => ?_)
             refine Kd.R_append_rows_step k108 (w0 := w) w.heap.size (by rfl) (.tmp 41) (.tmp 44) 63 108 (.agg #[(.int .i64 0), (.int .i64 0), (.int .i64 0), (.bool false)]) 32 rfl Try.underlying63 info108 rfl (by decide) (by omega) v170 y169 y172 _ _ _ (fun k_ => some k_ ≠ (.slice Ao16 y165.length co16 : Value).ownBlock) (fun _ => False) rfl rfl ?aO ?aR (fun _ _ h => h) (fun _ h => h.elim) ?aF ?aB ?aS ?aL ?_
             (case aR => repeat (first | exact (by repeat (first | (with_reducible exact HR175.out) | (with_reducible refine Kd.C_alloc ?_ _) | (with_reducible refine Kd.C_drewN ?_ _) | (with_reducible refine Kd.C_drew ?_) | exact HR175.out)) | (with_reducible refine Kd.C_alloc ?_ _) | (with_reducible refine Kd.C_drewN ?_ _) | (with_reducible refine Kd.C_drew ?_)))
             (case aB => exact tB)
             (case aF => exact (fun k_ hk => Kd.fresh' (Kd.R_lt (tR HO_10)) k_ hk))
             (case aO => exact (by (with_reducible repeat (first | apply Kd.R_alloc | apply Kd.R_drewN | apply Kd.R_drew)); exact Kd.R_mono HO171.out (fun _ hk => hk.2)))
             (case aS => exact (below_size tB))
             (case aL => have := LMc25.out; omega)
             intro v177 w35 ho hb hg hat
             rw [← Ny176.out] at ho
             replace BK157 := Aside0.mk (blk_grown (g := gb157) (o := .cells #[.slice A0_0 l0_0.length c0_0] 65 (0, 0)) (tK BK157) hg (Kd.R_ne HO171.out BK157.out (by decide)))
             replace BK158 := Aside0.mk (blk_grown (g := gb158) (o := .cells #[.slice none 0 0] 65 (0, 0)) (tK BK158) hg (Kd.R_ne HO171.out BK158.out (by decide)))
             replace HB := Aside0.mk (hb)
             replace HR175 := Aside0.mk ((show Kd.C k108 w35 Ao16 y172.length y172 from by rw [Ny172.out]; exact Kd.C_take (m := (x11_1 : Int).toNat) ((Kd.R_reads' (Kd.R_after (ok := (fun _ => True)) (tR HO_10) hg hat)).2.2) KL31.out))
             replace HR182 := Aside0.mk ((show Kd.C k108 w35 A32 y179.length y179 from by rw [Ny179.out, KA32.out]; exact Kd.C_drop (m := ((ji26) : Int).toNat) (c := co16) ((Kd.R_reads' (Kd.R_after (ok := (fun _ => True)) (tR HO_10) hg hat)).2.2) KL32.out ((Kd.R_reads' (Kd.R_after (ok := (fun _ => True)) (tR HO_10) hg hat)).2.1)))
             replace HO_10 := Aside0.mk (Kd.R_after (ok := (fun _ => True)) (tR HO_10) hg hat)
             have HO178 := Aside0.mk (ho)
             clear HO171
             clear ho hb hg hat
             refine hK.out _ _ trivial (fun hHeld => ?_)
             clear hK K
             refine norm_ (tV : Act.put _ (some 45) _ = _) ?_
             refine one_ (i := 9) (N := some 50) #[Y_,Y_,Y_,Y_,Y_,Y_,Y_,Y_,Y_,Y_,N_] rfl rfl (one_of HT_.out (by kernel_rfl)) (by decide) (fun K hK => ?_)
             refine Kd.R_append_rows_step k108 (w0 := w) w.heap.size (by rfl) (.tmp 45) (.tmp 49) 63 108 (.agg #[(.int .i64 0), (.int .i64 0), (.int .i64 0), (.bool false)]) 32 rfl Try.underlying63 info108 rfl (by decide) (by omega) v177 y176 y179 _ _ _ (fun k_ => some k_ ≠ (.slice Ao16 y165.length co16 : Value).ownBlock) (fun _ => False) rfl rfl ?aO ?aR (fun _ _ h => h) (fun _ h => h.elim) ?aF ?aB ?aS ?aL ?_
             (case aR => repeat (first | exact (by repeat (first | (with_reducible exact HR182.out) | (with_reducible refine Kd.C_alloc ?_ _) | (with_reducible refine Kd.C_drewN ?_ _) | (with_reducible refine Kd.C_drew ?_) | exact HR182.out)) | (with_reducible refine Kd.C_alloc ?_ _) | (with_reducible refine Kd.C_drewN ?_ _) | (with_reducible refine Kd.C_drew ?_)))
             (case aB => exact tB)
             (case aF => exact (fun k_ hk => Kd.fresh' (Kd.R_lt (tR HO_10)) k_ hk))
             (case aO => exact (tR HO178))
             (case aS => exact (below_size tB))
             (case aL => have := LMc29.out; omega)
             intro v184 w36 ho hb hg hat
             rw [← Ny183.out] at ho
             replace BK157 := Aside0.mk (blk_grown (g := gb157) (o := .cells #[.slice A0_0 l0_0.length c0_0] 65 (0, 0)) (tK BK157) hg (Kd.R_ne HO178.out BK157.out (by decide)))
             replace BK158 := Aside0.mk (blk_grown (g := gb158) (o := .cells #[.slice none 0 0] 65 (0, 0)) (tK BK158) hg (Kd.R_ne HO178.out BK158.out (by decide)))
             replace HB := Aside0.mk (hb)
             replace HR175 := Aside0.mk ((show Kd.C k108 w36 Ao16 y172.length y172 from by rw [Ny172.out]; exact Kd.C_take (m := (x11_1 : Int).toNat) ((Kd.R_reads' (Kd.R_after (ok := (fun _ => True)) (tR HO_10) hg hat)).2.2) KL31.out))
             replace HR182 := Aside0.mk ((show Kd.C k108 w36 A32 y179.length y179 from by rw [Ny179.out, KA32.out]; exact Kd.C_drop (m := ((ji26) : Int).toNat) (c := co16) ((Kd.R_reads' (Kd.R_after (ok := (fun _ => True)) (tR HO_10) hg hat)).2.2) KL32.out ((Kd.R_reads' (Kd.R_after (ok := (fun _ => True)) (tR HO_10) hg hat)).2.1)))
             replace HO_10 := Aside0.mk (Kd.R_after (ok := (fun _ => True)) (tR HO_10) hg hat)
             have HO185 := Aside0.mk (ho)
             clear HO178
             clear ho hb hg hat
             refine hK.out _ _ trivial (fun hHeld => ?_)
             clear hK K
             refine norm_ (tV : Act.put _ (some 50) _ = _) ?_
             refine pure_ (i := 10) (N := some 10) #[Y_,Y_,Y_,Y_,Y_,Y_,Y_,Y_,Y_,Y_,Y_] rfl rfl (any_of HT_.out (by kernel_rfl)) (fun _ _ _ h => h) (Or.inl ⟨by rfl, tX⟩) tV ?_
             refine done_ (done_of HT_.out (by kernel_rfl)) ?_
             try go_wp2
             go_meet
             case rel => exact ⟨_, (y183), H', ⟨by have := HK1.out; first | omega | exact Nat.le_refl _⟩, ⟨by (with_reducible repeat (first | apply Kd.R_alloc | apply Kd.R_drewN | apply Kd.R_drew)); exact Kd.R_mono HO185.out (fun _ hk => trivial)⟩, ⟨tK BK157⟩, ⟨tK BK158⟩, ⟨tB⟩⟩
            rw [if_neg c29] at H
            exact absurd H (by simp)
           rw [if_neg c28] at H
           exact absurd H (by simp)
          rw [if_neg c27] at H
          exact absurd H (by simp)
         rw [if_neg c25] at H
         exact absurd H (by simp)
        rw [if_neg c24] at H
        exact absurd H (by simp)
       rw [if_neg c23] at H
       exact absurd H (by simp)
    rw [if_neg c17] at H
    have c17b0 : decide (30 < (y165.length : Int)) = false := decide_eq_false c17
    have c17b1 : decide (30 < y165.length) = false := decide_eq_false (by omega)
    clear c17
    (first | rw [c17b0] | (simp only [i64_w, i32_w]; rw [c17b0]) | skip)
    have H' := Aside0.mk H
    clear H
    go_wp2
    go_meet
    case rel => exact ⟨_, (y165), H', ⟨by first | omega | exact Nat.le_refl _⟩, ⟨tR HO167⟩, ⟨tK BK157⟩, ⟨tK BK158⟩, ⟨tB⟩⟩
   case rest =>
    clear HC7
    try clear c1
    try clear p1
    try clear q1
    try clear hx1
    try clear c2
    try clear p2
    try clear q2
    try clear c3
    try clear q3
    try clear c5
    try clear c6
    try clear p6
    try clear c12
    try clear p16
    try clear q16
    try clear hx16
    try clear c17
    try clear c17b0
    try clear c17b1
    try clear c18
    try clear c18b0
    try clear c19
    try clear c19b0
    try clear c20
    try clear c20b0
    try clear q21
    try clear c22
    try clear c23
    try clear c23b0
    try clear c23b1
    try clear c24
    try clear c24b0
    try clear c24b1
    try clear c25
    try clear c27
    try clear c27b0
    try clear c27b1
    try clear c28
    try clear c28b0
    try clear c28b1
    try clear c29
    try clear q31
    try clear c32
    try clear q32
    try clear hcz13_0
    try clear hfz13_0
    try clear hx168_0
    try clear hx168_1
    try clear hx168_2
    try clear hx168_3
    try clear p168
    try clear p2
    try clear p6
    try clear q032
    try clear q168
    try clear q31
    try clear q32
    obtain ⟨kq, x10_6, HA, HJ6, HO_10, BK157, BK158, HB⟩ := hcut
    cases kq with
    | zero => exact absurd HA.out (by simp [spec_SendNotice.j1])
    | succ kj6 =>
     have H := HA.out
     clear HA
     simp only [spec_SendNotice.j1] at H
     replace H := Option.bind_eq_some_iff.mp H
     obtain ⟨t187, A370, H⟩ := H
     try dsimp only at H
     have A37 := Aside0.mk A370
     clear A370
     by_cases c38 : t187 = true
     ·subst c38
      have H1 : ((spec_IsValidMailbox.f kj6 x10_6).bind fun t188 => (if t188 = true then (some (x10_6, true)) else ((spec_l31Copy.f l0_0).bind fun t189 => (some (t189, false))))) = some (r1, r2) := by rw [if_pos rfl] at H; exact H
      clear H
      have H := H1
      clear H1
      replace H := Option.bind_eq_some_iff.mp H
      obtain ⟨t188, A390, H⟩ := H
      try dsimp only at H
      have A39 := Aside0.mk A390
      clear A390
      by_cases c40 : t188 = true
      ·subst c40
       have H1 : (some (x10_6, true)) = some (r1, r2) := by rw [if_pos rfl] at H; exact H
       clear H
       have H := H1
       clear H1
       simp only [Option.some.injEq, Prod.mk.injEq] at H
       obtain ⟨rfl, rfl⟩ := H
       obtain ⟨Ao41, co41, eo41⟩ := Kd.R_slice HO_10.out
       subst eo41
       go_wp2_with (first | ((with_reducible refine gate_dst (N := 13) rfl ?_); refine box_event ?hg (N := 13) ?hd (cs := #[.slice none 0 0]) (t := 65) ?hr ?_; (case hd => rfl); (case hg => rfl); (case hr => exact tG); intro gb186 hg w42 hbox hb; replace HO_10 := Aside0.mk (Kd.R_below (tR HO_10) hb); have BK186 := Aside0.mk (hbox); have GW186 := gW HB hg; have GE186 := gW HB hg; replace HB := bH HB hb; have NB157_186 := nL BK157 hg; have NB186_157 := nR BK157 hg; replace BK157 := bB BK157 hb; have NB158_186 := nL BK158 hg; have NB186_158 := nR BK158 hg; replace BK158 := bB BK158 hb; clear hb hbox hg; have hnb43 := NB186_157.out; have hnc43 := NB157_186.out; have hnb44 := NB186_158.out; have hnc44 := NB158_186.out; obtain ⟨hcz45_0, hfz45_0⟩ := bc1 BK186.out; have hnb46 := NB157_158.out; have hnc46 := NB158_157.out; obtain ⟨hcz47_0, hfz47_0⟩ := bc1 BK157.out) | ((with_reducible refine gate_callee (f := 102) rfl ?_); refine goesL_ (some 54) rfl rfl Try.func102 (by kernel_rfl) rfl #[.agg #[.slice A0_0 l0_0.length c0_0]] rfl tL ?_; (with_reducible refine (spec_IsValidMailbox.calls kj6 _ _ l0_0 true _ ?side1 ?side2 A37.out).mono ?_); (case side1 => exact Kd.C_below HR0_0.out tB); (case side2 => exact HC0_0.out); rintro e w48 ⟨rfl, hb⟩; refine ⟨_, rfl, ?_⟩; replace HO_10 := Aside0.mk (Kd.R_below (by (with_reducible repeat (first | apply Kd.R_alloc | apply Kd.R_drewN | apply Kd.R_drew)); exact (Kd.R_mono (Kd.R_far (p := ⟨gb186, 0, none⟩) (Kd.R_types HO_10.out BK186.out (by decide)) (fun _ hk => hk.2) (.slice Ao41 x10_6.length co41)) (fun _ h_ => h_.1))) hb); replace BK157 := Aside0.mk (blk_below (g := gb157) (o := .cells #[.slice A0_0 l0_0.length c0_0] 65 (0, 0)) (kF NB157_186 BK157) hb); replace BK158 := Aside0.mk (blk_below (g := gb158) (o := .cells #[.slice none 0 0] 65 (0, 0)) (kF NB158_186 BK158) hb); replace BK186 := Aside0.mk (blk_below (g := gb186) (o := .cells #[.slice Ao41 x10_6.length co41] 65 (0, 0)) (by (with_reducible repeat (first | refine blk_drewN ?_ _ | refine blk_drew ?_ | refine blk_alloc ?_ _)); refine blk_put (cs := #[.slice none 0 0]) ?_ 0 _ rfl; (with_reducible repeat (first | refine blk_drewN ?_ _ | refine blk_drew ?_ | refine blk_alloc ?_ _)); exact BK186.out) hb); replace HB := bH HB hb; (try clear hb); (try clear hb2); (try clear hk); (try clear hi); obtain ⟨hcz49_0, hfz49_0⟩ := bc1 BK186.out) | (go_at_call 102; (with_reducible refine (spec_IsValidMailbox.calls kj6 _ _ x10_6 true _ ?side1 ?side2 A39.out).mono ?_); (case side1 => repeat (first | exact (Kd.R_reads' HO_10.out).2.2 | (with_reducible refine Kd.C_alloc ?_ _) | (with_reducible refine Kd.C_drewN ?_ _) | (with_reducible refine Kd.C_drew ?_))); (case side2 => exact (Kd.R_reads' HO_10.out).2.1); rintro e w50 ⟨rfl, hb⟩; replace HO_10 := Aside0.mk (Kd.R_below (tR HO_10) hb); replace BK157 := bB BK157 hb; replace BK158 := bB BK158 hb; replace BK186 := bB BK186 hb; replace HB := bH HB hb; (try clear hb); (try clear hb2); (try clear hk); (try clear hi); obtain ⟨hcz51_0, hfz51_0⟩ := bc1 BK186.out; obtain ⟨hcz52_0, hfz52_0⟩ := bc1 BK158.out))
       refine bodyPost_ret (results_ct rfl _ _ gb158 65 #[.slice Ao41 x10_6.length co41] (0, 0) _ rfl (by (with_reducible repeat (first | refine blk_drewN ?_ _ | refine blk_drew ?_ | refine blk_alloc ?_ _)); refine blk_put (cs := #[.slice none 0 0]) ?_ 0 _ rfl; (with_reducible repeat (first | refine blk_drewN ?_ _ | refine blk_drew ?_ | refine blk_alloc ?_ _)); exact BK158.out) Try.underlying65 rfl (by kernel_rfl)) rfl ?_
       exact ⟨_, tE, by (with_reducible repeat (first | apply Kd.R_alloc | apply Kd.R_drewN | apply Kd.R_drew)); exact Kd.R_mono (Kd.R_far (p := ⟨gb158, 0, none⟩) (Kd.R_types HO_10.out BK158.out (by decide)) (fun _ hk => hk.2) (.slice Ao41 x10_6.length co41)) (fun _ hk => trivial), tB⟩
      replace c40 := Bool.eq_false_iff.mpr c40
      subst c40
      have H1 : ((spec_l31Copy.f l0_0).bind fun t189 => (some (t189, false))) = some (r1, r2) := by rw [if_neg (show ¬ (false = true) by decide)] at H; exact H
      clear H
      have H := H1
      clear H1
      replace H := Option.bind_eq_some_iff.mp H
      obtain ⟨t189, A530, H⟩ := H
      try dsimp only at H
      have A53 := Aside0.mk A530
      clear A530
      simp only [Option.some.injEq, Prod.mk.injEq] at H
      obtain ⟨rfl, rfl⟩ := H
      obtain ⟨Ao54, co54, eo54⟩ := Kd.R_slice HO_10.out
      subst eo54
      go_wp2_with (first | ((with_reducible refine gate_dst (N := 13) rfl ?_); refine box_event ?hg (N := 13) ?hd (cs := #[.slice none 0 0]) (t := 65) ?hr ?_; (case hd => rfl); (case hg => rfl); (case hr => exact tG); intro gb186 hg w55 hbox hb; replace HO_10 := Aside0.mk (Kd.R_below (tR HO_10) hb); have BK186 := Aside0.mk (hbox); have GW186 := gW HB hg; have GE186 := gW HB hg; replace HB := bH HB hb; have NB157_186 := nL BK157 hg; have NB186_157 := nR BK157 hg; replace BK157 := bB BK157 hb; have NB158_186 := nL BK158 hg; have NB186_158 := nR BK158 hg; replace BK158 := bB BK158 hb; clear hb hbox hg; have hnb56 := NB186_157.out; have hnc56 := NB157_186.out; have hnb57 := NB186_158.out; have hnc57 := NB158_186.out; obtain ⟨hcz58_0, hfz58_0⟩ := bc1 BK186.out; have hnb59 := NB157_158.out; have hnc59 := NB158_157.out; obtain ⟨hcz60_0, hfz60_0⟩ := bc1 BK157.out) | ((with_reducible refine gate_callee (f := 102) rfl ?_); refine goesL_ (some 54) rfl rfl Try.func102 (by kernel_rfl) rfl #[.agg #[.slice A0_0 l0_0.length c0_0]] rfl tL ?_; (with_reducible refine (spec_IsValidMailbox.calls kj6 _ _ l0_0 true _ ?side1 ?side2 A37.out).mono ?_); (case side1 => exact Kd.C_below HR0_0.out tB); (case side2 => exact HC0_0.out); rintro e w61 ⟨rfl, hb⟩; refine ⟨_, rfl, ?_⟩; replace HO_10 := Aside0.mk (Kd.R_below (by (with_reducible repeat (first | apply Kd.R_alloc | apply Kd.R_drewN | apply Kd.R_drew)); exact (Kd.R_mono (Kd.R_far (p := ⟨gb186, 0, none⟩) (Kd.R_types HO_10.out BK186.out (by decide)) (fun _ hk => hk.2) (.slice Ao54 x10_6.length co54)) (fun _ h_ => h_.1))) hb); replace BK157 := Aside0.mk (blk_below (g := gb157) (o := .cells #[.slice A0_0 l0_0.length c0_0] 65 (0, 0)) (kF NB157_186 BK157) hb); replace BK158 := Aside0.mk (blk_below (g := gb158) (o := .cells #[.slice none 0 0] 65 (0, 0)) (kF NB158_186 BK158) hb); replace BK186 := Aside0.mk (blk_below (g := gb186) (o := .cells #[.slice Ao54 x10_6.length co54] 65 (0, 0)) (by (with_reducible repeat (first | refine blk_drewN ?_ _ | refine blk_drew ?_ | refine blk_alloc ?_ _)); refine blk_put (cs := #[.slice none 0 0]) ?_ 0 _ rfl; (with_reducible repeat (first | refine blk_drewN ?_ _ | refine blk_drew ?_ | refine blk_alloc ?_ _)); exact BK186.out) hb); replace HB := bH HB hb; (try clear hb); (try clear hb2); (try clear hk); (try clear hi); obtain ⟨hcz62_0, hfz62_0⟩ := bc1 BK186.out) | (go_at_call 102; (with_reducible refine (spec_IsValidMailbox.calls kj6 _ _ x10_6 false _ ?side1 ?side2 A39.out).mono ?_); (case side1 => repeat (first | exact (Kd.R_reads' HO_10.out).2.2 | (with_reducible refine Kd.C_alloc ?_ _) | (with_reducible refine Kd.C_drewN ?_ _) | (with_reducible refine Kd.C_drew ?_))); (case side2 => exact (Kd.R_reads' HO_10.out).2.1); rintro e w63 ⟨rfl, hb⟩; replace HO_10 := Aside0.mk (Kd.R_below (tR HO_10) hb); replace BK157 := bB BK157 hb; replace BK158 := bB BK158 hb; replace BK186 := bB BK186 hb; replace HB := bH HB hb; (try clear hb); (try clear hb2); (try clear hk); (try clear hi); obtain ⟨hcz64_0, hfz64_0⟩ := bc1 BK157.out) | ((with_reducible refine gate_callee (f := 93) rfl ?_); refine goesL_ (some 62) rfl rfl Try.func93 (by kernel_rfl) rfl #[.agg #[.slice A0_0 l0_0.length c0_0]] rfl tL ?_; (with_reducible refine (spec_l31Copy.calls _ _ l0_0 t189 _ ?side1 ?side2 A53.out).mono ?_); (case side1 => repeat (first | exact (Kd.C_below HR0_0.out HB.out) | (with_reducible refine Kd.C_alloc ?_ _) | (with_reducible refine Kd.C_drewN ?_ _) | (with_reducible refine Kd.C_drew ?_))); (case side2 => exact HC0_0.out); rintro e w65 ⟨v190, rfl, ho0, hb⟩; refine ⟨_, rfl, ?_⟩; have HO191 := Aside0.mk (Kd.R_lower (Kd.R_new' ho0 (Kd.R_lt (tR HO_10))) (below_size tB)); replace HO_10 := Aside0.mk (Kd.R_elder' (tR HO_10) (Kd.R_base ho0) hb); replace BK157 := bB BK157 hb; replace BK158 := bB BK158 hb; replace BK186 := bB BK186 hb; replace HB := bH HB hb; (try clear hb); (try clear hb2); (try clear hk); (try clear hi); (try clear ho0); obtain ⟨Ao66, co66, eo66⟩ := Kd.R_slice HO191.out; subst eo66; obtain ⟨hcz67_0, hfz67_0⟩ := bc1 BK158.out))
      refine bodyPost_ret (results_ct rfl _ _ gb158 65 #[.slice Ao66 t189.length co66] (0, 0) _ rfl (by (with_reducible repeat (first | refine blk_drewN ?_ _ | refine blk_drew ?_ | refine blk_alloc ?_ _)); refine blk_put (cs := #[.slice none 0 0]) ?_ 0 _ rfl; (with_reducible repeat (first | refine blk_drewN ?_ _ | refine blk_drew ?_ | refine blk_alloc ?_ _)); exact BK158.out) Try.underlying65 rfl (by kernel_rfl)) rfl ?_
      exact ⟨_, tE, by (with_reducible repeat (first | apply Kd.R_alloc | apply Kd.R_drewN | apply Kd.R_drew)); exact Kd.R_mono (Kd.R_far (p := ⟨gb158, 0, none⟩) (Kd.R_types HO191.out BK158.out (by decide)) (fun _ hk => hk.2) (.slice Ao66 t189.length co66)) (fun _ hk => trivial), tB⟩
     replace c38 := Bool.eq_false_iff.mpr c38
     subst c38
     have H1 : ((spec_l31Copy.f l0_0).bind fun t192 => (some (t192, false))) = some (r1, r2) := by rw [if_neg (show ¬ (false = true) by decide)] at H; exact H
     clear H
     have H := H1
     clear H1
     replace H := Option.bind_eq_some_iff.mp H
     obtain ⟨t192, A680, H⟩ := H
     try dsimp only at H
     have A68 := Aside0.mk A680
     clear A680
     simp only [Option.some.injEq, Prod.mk.injEq] at H
     obtain ⟨rfl, rfl⟩ := H
     obtain ⟨Ao69, co69, eo69⟩ := Kd.R_slice HO_10.out
     subst eo69
     go_wp2_with (first | ((with_reducible refine gate_dst (N := 13) rfl ?_); refine box_event ?hg (N := 13) ?hd (cs := #[.slice none 0 0]) (t := 65) ?hr ?_; (case hd => rfl); (case hg => rfl); (case hr => exact tG); intro gb186 hg w70 hbox hb; replace HO_10 := Aside0.mk (Kd.R_below (tR HO_10) hb); have BK186 := Aside0.mk (hbox); have GW186 := gW HB hg; have GE186 := gW HB hg; replace HB := bH HB hb; have NB157_186 := nL BK157 hg; have NB186_157 := nR BK157 hg; replace BK157 := bB BK157 hb; have NB158_186 := nL BK158 hg; have NB186_158 := nR BK158 hg; replace BK158 := bB BK158 hb; clear hb hbox hg; have hnb71 := NB186_157.out; have hnc71 := NB157_186.out; have hnb72 := NB186_158.out; have hnc72 := NB158_186.out; obtain ⟨hcz73_0, hfz73_0⟩ := bc1 BK186.out; have hnb74 := NB157_158.out; have hnc74 := NB158_157.out; obtain ⟨hcz75_0, hfz75_0⟩ := bc1 BK157.out) | ((with_reducible refine gate_callee (f := 102) rfl ?_); refine goesL_ (some 54) rfl rfl Try.func102 (by kernel_rfl) rfl #[.agg #[.slice A0_0 l0_0.length c0_0]] rfl tL ?_; (with_reducible refine (spec_IsValidMailbox.calls kj6 _ _ l0_0 false _ ?side1 ?side2 A37.out).mono ?_); (case side1 => exact Kd.C_below HR0_0.out tB); (case side2 => exact HC0_0.out); rintro e w76 ⟨rfl, hb⟩; refine ⟨_, rfl, ?_⟩; replace HO_10 := Aside0.mk (Kd.R_below (by (with_reducible repeat (first | apply Kd.R_alloc | apply Kd.R_drewN | apply Kd.R_drew)); exact (Kd.R_mono (Kd.R_far (p := ⟨gb186, 0, none⟩) (Kd.R_types HO_10.out BK186.out (by decide)) (fun _ hk => hk.2) (.slice Ao69 x10_6.length co69)) (fun _ h_ => h_.1))) hb); replace BK157 := Aside0.mk (blk_below (g := gb157) (o := .cells #[.slice A0_0 l0_0.length c0_0] 65 (0, 0)) (kF NB157_186 BK157) hb); replace BK158 := Aside0.mk (blk_below (g := gb158) (o := .cells #[.slice none 0 0] 65 (0, 0)) (kF NB158_186 BK158) hb); replace BK186 := Aside0.mk (blk_below (g := gb186) (o := .cells #[.slice Ao69 x10_6.length co69] 65 (0, 0)) (by (with_reducible repeat (first | refine blk_drewN ?_ _ | refine blk_drew ?_ | refine blk_alloc ?_ _)); refine blk_put (cs := #[.slice none 0 0]) ?_ 0 _ rfl; (with_reducible repeat (first | refine blk_drewN ?_ _ | refine blk_drew ?_ | refine blk_alloc ?_ _)); exact BK186.out) hb); replace HB := bH HB hb; (try clear hb); (try clear hb2); (try clear hk); (try clear hi); obtain ⟨hcz77_0, hfz77_0⟩ := bc1 BK157.out) | ((with_reducible refine gate_callee (f := 93) rfl ?_); refine goesL_ (some 62) rfl rfl Try.func93 (by kernel_rfl) rfl #[.agg #[.slice A0_0 l0_0.length c0_0]] rfl tL ?_; (with_reducible refine (spec_l31Copy.calls _ _ l0_0 t192 _ ?side1 ?side2 A68.out).mono ?_); (case side1 => repeat (first | exact (Kd.C_below HR0_0.out HB.out) | (with_reducible refine Kd.C_alloc ?_ _) | (with_reducible refine Kd.C_drewN ?_ _) | (with_reducible refine Kd.C_drew ?_))); (case side2 => exact HC0_0.out); rintro e w78 ⟨v193, rfl, ho0, hb⟩; refine ⟨_, rfl, ?_⟩; have HO194 := Aside0.mk (Kd.R_lower (Kd.R_new' ho0 (Kd.R_lt (tR HO_10))) (below_size tB)); replace HO_10 := Aside0.mk (Kd.R_elder' (tR HO_10) (Kd.R_base ho0) hb); replace BK157 := bB BK157 hb; replace BK158 := bB BK158 hb; replace BK186 := bB BK186 hb; replace HB := bH HB hb; (try clear hb); (try clear hb2); (try clear hk); (try clear hi); (try clear ho0); obtain ⟨Ao79, co79, eo79⟩ := Kd.R_slice HO194.out; subst eo79; obtain ⟨hcz80_0, hfz80_0⟩ := bc1 BK158.out))
     refine bodyPost_ret (results_ct rfl _ _ gb158 65 #[.slice Ao79 t192.length co79] (0, 0) _ rfl (by (with_reducible repeat (first | refine blk_drewN ?_ _ | refine blk_drew ?_ | refine blk_alloc ?_ _)); refine blk_put (cs := #[.slice none 0 0]) ?_ 0 _ rfl; (with_reducible repeat (first | refine blk_drewN ?_ _ | refine blk_drew ?_ | refine blk_alloc ?_ _)); exact BK158.out) Try.underlying65 rfl (by kernel_rfl)) rfl ?_
     exact ⟨_, tE, by (with_reducible repeat (first | apply Kd.R_alloc | apply Kd.R_drewN | apply Kd.R_drew)); exact Kd.R_mono (Kd.R_far (p := ⟨gb158, 0, none⟩) (Kd.R_types HO194.out BK158.out (by decide)) (fun _ hk => hk.2) (.slice Ao79 t192.length co79)) (fun _ hk => trivial), tB⟩
  rw [if_neg c6] at H
  exact absurd H (by simp)
 rw [if_neg c5] at H
 exact absurd H (by simp)

/-! ### impl_InRange: function 81 -/
def impl_InRange.f (a0 : Int) (a1 : Int) (a2 : Int) : Option (Bool) := if a1 ≤ a0 then (some (decide (a0 ≤ a2))) else (some false)
set_option maxHeartbeats 8000000 in
set_option maxRecDepth 100000 in
theorem impl_InRange.calls (a0 : Int) (a1 : Int) (a2 : Int) (r : Bool) (w : World) (h : impl_InRange.f a0 a1 a2 = some r) :
  Calls Try.prog 81 #[.int .i64 a0, .int .i64 a1, .int .i64 a2] w fun e w' => e = .returned (.bool r) ∧ Drawn0 w w' := by
 have H : (if a1 ≤ a0 then (some (decide (a0 ≤ a2))) else (some false)) = some r := h
 clear h
 by_cases c4 : a1 ≤ a0
 ·rw [if_pos c4] at H
  have c4b0 : decide (a1 ≤ a0) = true := decide_eq_true c4
  clear c4
  obtain rfl := Option.some.inj H
  go_enter Try.func81, Try.ntmps81
  go_wp2
  go_ret
  exact ⟨tS, by repeat (first | exact Drawn0.refl _ | apply Drawn0.step)⟩
 rw [if_neg c4] at H
 have c4b0 : decide (a1 ≤ a0) = false := decide_eq_false c4
 clear c4
 obtain rfl := Option.some.inj H
 go_enter Try.func81, Try.ntmps81
 go_wp2
 go_ret
 exact ⟨tS, by repeat (first | exact Drawn0.refl _ | apply Drawn0.step)⟩

end Go.Proofs.Ytanoaneoanpkkaa.ZFnExactSendNotice
