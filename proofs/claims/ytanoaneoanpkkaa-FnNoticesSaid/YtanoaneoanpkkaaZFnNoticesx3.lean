/- The machine side: for each Go function a Lean function and the contract that the Go code answers as it does; printed by program (wip/tmpl/pprint.sh). -/
import Derived.Test.YtanoaneoanpkkaaZFnNoticesx0
import Derived.Test.YtanoaneoanpkkaaZFnNoticesx2
namespace Go.Proofs.Ytanoaneoanpkkaa.ZFnNotices
open Go.RowKit Go.Proofs.YtanoaneoanpkkaaW.PrintWords Go.Proofs.YtanoaneoanpkkaaW.PrintLast Go.Proofs.YtanoaneoanpkkaaW.PrintMore
attribute [local go_sem] max2_int min2_int max_two min_two max_three min_three max_four min_four   -- for this text's walks alone
set_option linter.unusedVariables false
set_option linter.unusedSimpArgs false

/-! ### spec_SendNotice: function 57 -/
mutual
def spec_SendNotice.j1 : Nat → List (S108) → List (S108) → Option ((List (S108)) × Bool)
 | 0, _, _ => none
 | k + 1, x10, x141000 => (spec_IsValidMailbox.f k x141000).bind fun t170 => (if t170 = true then ((spec_IsValidMailbox.f k x10).bind fun t171 => (if t171 = true then (some (x10, true)) else ((spec_l31Copy.f x141000).bind fun t172 => (some (t172, false))))) else ((spec_l31Copy.f x141000).bind fun t175 => (some (t175, false))))
def spec_SendNotice.l0 : Nat → List (S108) → Int → Int → List (S108) → Option ((List (S108)) × Bool)
 | 0, _, _, _, _ => none
 | k + 1, x10, x11, x12, x141000 => if x12 ≥ 0 then (if 0 ≤ x12 then (if x12 < (x10.length : Int) then (if (rd_T108 x10 x12).f3 = true then (spec_SendNotice.l0 k x10 x12 (wrap64 (x12 - 1)) x141000) else (spec_SendNotice.l0 k x10 x11 (wrap64 (x12 - 1)) x141000)) else (none)) else (none)) else ((some (([] : List (S108)) : List (S108))).bind fun y152 => (if 0 ≤ x11 then (if x11 ≤ (x10.length : Int) then ((some (x10.take (x11 : Int).toNat : List (S108))).bind fun y155 => (if y152.length + y155.length < 4398046511104 then ((some (y152 ++ y155 : List (S108))).bind fun y159 => (if 0 ≤ (wrap64 (x11 + 1)) then (if (wrap64 (x11 + 1)) ≤ (x10.length : Int) then ((some (x10.drop ((wrap64 (x11 + 1)) : Int).toNat : List (S108))).bind fun y162 => (if y159.length + y162.length < 4398046511104 then (spec_SendNotice.j1 k (y159 ++ y162) x141000) else (none))) else (none)) else (none))) else (none))) else (none)) else (none)))
end
def spec_SendNotice.f (k : Nat) (l0_0 : List (S108)) (a1 : Int) (a2 : Int) (a3 : Int) : Option ((List (S108)) × Bool) := (some (([] : List (S108)) : List (S108))).bind fun y142 => (if y142.length + l0_0.length < 4398046511104 then ((some (y142 ++ l0_0 : List (S108))).bind fun y145 => (if y145.length < 4398046511104 then ((some (y145 ++ [(⟨a1, a2, a3, false⟩ : S108)] : List (S108))).bind fun y148 => (if (y148.length : Int) > 30 then (spec_SendNotice.l0 k y148 0 (wrap64 ((y148.length : Int) - 1)) l0_0) else (spec_SendNotice.j1 k y148 l0_0))) else (none))) else (none))
theorem spec_SendNotice.mono_l : ∀ k, (∀ y0 y1, LeO (spec_SendNotice.j1 k y0 y1) (spec_SendNotice.j1 (k + 1) y0 y1)) ∧ (∀ y0 y1 y2 y3, LeO (spec_SendNotice.l0 k y0 y1 y2 y3) (spec_SendNotice.l0 (k + 1) y0 y1 y2 y3))
 | 0 => ⟨fun _ _ r h => by simp [spec_SendNotice.j1] at h, fun _ _ _ _ r h => by simp [spec_SendNotice.l0] at h⟩
 | k + 1 => by
  obtain ⟨ih0, ih1⟩ := spec_SendNotice.mono_l k
  refine ⟨?_, ?_⟩
  ·intro y0 y1
   unfold spec_SendNotice.j1
   repeat' first
   | (with_reducible exact ih0 _ _)
   | (with_reducible exact ih1 _ _ _ _)
   | (with_reducible exact spec_IsValidMailbox.mono _ _)
   | (with_reducible exact LeO.refl _)
   | (with_reducible exact LeO.none _)
   | (with_reducible refine LeO.ite ?_ ?_)
   | (with_reducible refine LeO.bind ?_ (fun _ => ?_))
   | exact ih0 _ _
   | exact ih1 _ _ _ _
   | exact spec_IsValidMailbox.mono _ _
   | exact LeO.none _
   | refine LeO.ite ?_ ?_
   | refine LeO.bind ?_ (fun _ => ?_)
  ·intro y0 y1 y2 y3
   unfold spec_SendNotice.l0
   repeat' first
   | (with_reducible exact ih0 _ _)
   | (with_reducible exact ih1 _ _ _ _)
   | (with_reducible exact spec_IsValidMailbox.mono _ _)
   | (with_reducible exact LeO.refl _)
   | (with_reducible exact LeO.none _)
   | (with_reducible refine LeO.ite ?_ ?_)
   | (with_reducible refine LeO.bind ?_ (fun _ => ?_))
   | exact ih0 _ _
   | exact ih1 _ _ _ _
   | exact spec_IsValidMailbox.mono _ _
   | exact LeO.none _
   | refine LeO.ite ?_ ?_
   | refine LeO.bind ?_ (fun _ => ?_)
theorem spec_SendNotice.mono : ∀ a0 a1 a2 a3 k, LeO (spec_SendNotice.f k a0 a1 a2 a3) (spec_SendNotice.f (k + 1) a0 a1 a2 a3) := by
 intro a0 a1 a2 a3 k
 obtain ⟨ih0, ih1⟩ := spec_SendNotice.mono_l k
 unfold spec_SendNotice.f
 repeat' first
   | (with_reducible exact ih0 _ _)
   | (with_reducible exact ih1 _ _ _ _)
   | (with_reducible exact spec_IsValidMailbox.mono _ _)
   | (with_reducible exact LeO.refl _)
   | (with_reducible exact LeO.none _)
   | (with_reducible refine LeO.ite ?_ ?_)
   | (with_reducible refine LeO.bind ?_ (fun _ => ?_))
   | exact ih0 _ _
   | exact ih1 _ _ _ _
   | exact spec_IsValidMailbox.mono _ _
   | exact LeO.none _
   | refine LeO.ite ?_ ?_
   | refine LeO.bind ?_ (fun _ => ?_)
def spec_SendNotice.T10 : Bool × List (List Nat × List Nat) := (true, [([], []), ([], []), ([], []), ([1, 2], [1, 2]), ([0, 3], [0, 3]), ([], []), ([], []), ([6], [6]), ([5, 7], [5, 7]), ([4, 8, 4], [4, 8]), ([9, 9, 0, 1, 2, 3, 4, 5, 6, 7, 8, 9], [1, 5, 9])])
def spec_SendNotice.B10 : List Nat := [0, 0, 0, 6, 15, 0, 0, 64, 224, 511, 1023]
theorem spec_SendNotice.tab10 : rtab .any (opsOf Try.f57 10) = spec_SendNotice.T10 := by kernel_rfl
theorem spec_SendNotice.bits10 : waitsOk spec_SendNotice.T10.2 spec_SendNotice.B10 = true := by kernel_rfl
set_option maxHeartbeats 8000000 in
set_option maxRecDepth 100000 in
theorem spec_SendNotice.calls (k : Nat) (A0_0 : Option Addr) (c0_0 : Nat) (l0_0 : List (S108)) (a1 : Int) (a2 : Int) (a3 : Int) (r1 : List (S108)) (r2 : Bool) (w : World) (hr0_0 : Kd.C k108 w A0_0 l0_0.length l0_0) (hc0_0 : l0_0.length ≤ c0_0) (h : spec_SendNotice.f k l0_0 a1 a2 a3 = some (r1, r2)) :
  Calls Try.prog 57 #[.agg #[.slice A0_0 l0_0.length c0_0], .int .i64 a1, .int .i64 a2, .int .i64 a3] w fun e w' => ∃ v0_ : Value, e = .returned (.tuple #[.agg #[v0_], .bool r2]) ∧ Kd.R k108 108 w' w.heap.size (fun _ => True) v0_ r1 ∧ Below w.heap.size w w' := by
 have hu65 := Try.underlying65
 have hu108 := Try.underlying108
 have HR0_0 := Aside0.mk hr0_0
 have HC0_0 := Aside0.mk hc0_0
 clear hr0_0 hc0_0
 have HB := Aside0.mk (Below.refl w.heap.size w)
 have H : ((some (([] : List (S108)) : List (S108))).bind fun y142 => (if y142.length + l0_0.length < 4398046511104 then ((some (y142 ++ l0_0 : List (S108))).bind fun y145 => (if y145.length < 4398046511104 then ((some (y145 ++ [(⟨a1, a2, a3, false⟩ : S108)] : List (S108))).bind fun y148 => (if (y148.length : Int) > 30 then (spec_SendNotice.l0 k y148 0 (wrap64 ((y148.length : Int) - 1)) l0_0) else (spec_SendNotice.j1 k y148 l0_0))) else (none))) else (none))) = some (r1, r2) := h
 clear h
 obtain ⟨y142, hy142⟩ : ∃ y_ : List (S108), y_ = (([] : List (S108))) := ⟨_, rfl⟩
 replace H : (if y142.length + l0_0.length < 4398046511104 then ((some (y142 ++ l0_0 : List (S108))).bind fun y145 => (if y145.length < 4398046511104 then ((some (y145 ++ [(⟨a1, a2, a3, false⟩ : S108)] : List (S108))).bind fun y148 => (if (y148.length : Int) > 30 then (spec_SendNotice.l0 k y148 0 (wrap64 ((y148.length : Int) - 1)) l0_0) else (spec_SendNotice.j1 k y148 l0_0))) else (none))) else (none)) = some (r1, r2) := by first | (rw [hy142]; with_reducible exact H) | (have H2_ := (Option.bind_some _ _).symm.trans H; rw [hy142]; with_reducible exact H2_) | (have H2_ := (Option.bind_some _ _).symm.trans H; with_reducible exact H2_) | with_reducible exact H | (rw [hy142]; exact H) | exact H
 have Ny142 := Aside0.mk hy142
 clear hy142
 by_cases c5 : y142.length + l0_0.length < 4398046511104
 ·rw [if_pos c5] at H
  have LMc5 := Aside0.mk c5
  clear c5
  obtain ⟨y145, hy145⟩ : ∃ y_ : List (S108), y_ = (y142 ++ l0_0) := ⟨_, rfl⟩
  replace H : (if y145.length < 4398046511104 then ((some (y145 ++ [(⟨a1, a2, a3, false⟩ : S108)] : List (S108))).bind fun y148 => (if (y148.length : Int) > 30 then (spec_SendNotice.l0 k y148 0 (wrap64 ((y148.length : Int) - 1)) l0_0) else (spec_SendNotice.j1 k y148 l0_0))) else (none)) = some (r1, r2) := by first | (rw [hy145]; with_reducible exact H) | (have H2_ := (Option.bind_some _ _).symm.trans H; rw [hy145]; with_reducible exact H2_) | (have H2_ := (Option.bind_some _ _).symm.trans H; with_reducible exact H2_) | with_reducible exact H | (rw [hy145]; exact H) | exact H
  have Ny145 := Aside0.mk hy145
  clear hy145
  by_cases c6 : y145.length < 4398046511104
  ·rw [if_pos c6] at H
   have LMc6 := Aside0.mk c6
   clear c6
   obtain ⟨y148, hy148⟩ : ∃ y_ : List (S108), y_ = (y145 ++ [(⟨a1, a2, a3, false⟩ : S108)]) := ⟨_, rfl⟩
   replace H : (if (y148.length : Int) > 30 then (spec_SendNotice.l0 k y148 0 (wrap64 ((y148.length : Int) - 1)) l0_0) else (spec_SendNotice.j1 k y148 l0_0)) = some (r1, r2) := by first | (rw [hy148]; with_reducible exact H) | (have H2_ := (Option.bind_some _ _).symm.trans H; rw [hy148]; with_reducible exact H2_) | (have H2_ := (Option.bind_some _ _).symm.trans H; with_reducible exact H2_) | with_reducible exact H | (rw [hy148]; exact H) | exact H
   have Ny148 := Aside0.mk hy148
   clear hy148
   have HC7 := Aside0.mk H
   clear H
   go_enter Try.func57, Try.ntmps57
   go_upto_if 27 with (first | ((with_reducible refine gate_dst (N := 4) rfl ?_); refine box_event ?hg (N := 4) ?hd (cs := #[.slice A0_0 l0_0.length c0_0]) (t := 65) ?hr ?_; (case hd => rfl); (case hg => rfl); (case hr => exact tG); intro gb140 hg w8 hbox hb; have BK140 := Aside0.mk (hbox); have GW140 := gW HB hg; have GE140 := gW HB hg; replace HB := bH HB hb; clear hb hbox hg) | ((with_reducible refine gate_dst (N := 8) rfl ?_); refine box_event ?hg (N := 8) ?hd (cs := #[.slice none 0 0]) (t := 65) ?hr ?_; (case hd => rfl); (case hg => rfl); (case hr => exact tG); intro gb141 hg w9 hbox hb; have BK141 := Aside0.mk (hbox); have GW141 := gW HB hg; have GE141 := gW HB hg; replace HB := bH HB hb; have NB140_141 := nL BK140 hg; have NB141_140 := nR BK140 hg; replace BK140 := bB BK140 hb; clear hb hbox hg) | ((with_reducible refine gate_dst (N := 14) rfl ?_); refine Kd.R_lit k108 _ 108 ?hg (N := 14) ?hd (xs := ([] : List (S108))) (inner := []) (ok := fun _ => True) (okp := fun _ => True) ?hr ?hp (fun _ hk => hk) trivial (Below.refl _ _) (Nat.le_refl _) (by simp) ?_; (case hd => rfl); (case hg => rfl); (case hr => exact tG); (case hp => exact (Reps.none _ _)); intro v143 w10 ho11 hb hg_ hnew_; clear hg_ hnew_; (first | rw [← Ny142.out] at ho11 | (simp only [Int.reduceToNat] at ho11; rw [← Ny142.out] at ho11)); have HO144 := Aside0.mk (Kd.R_lower ho11 (below_size tB)); replace BK140 := bB BK140 hb; replace BK141 := bB BK141 hb; replace HB := bH HB hb; clear hb ho11; have hnb12 := NB140_141.out; have hnc12 := NB141_140.out; obtain ⟨hcz13_0, hfz13_0⟩ := bc1 BK140.out) | ((with_reducible refine gate_builtin (b := .append) (xs := #[.tmp 14, .tmp 16]) rfl ?_); at_builtin; refine Kd.R_append_rows k108 (w0 := w) w.heap.size rfl (.tmp 14) (.tmp 16) 63 108 (.agg #[(.int .i64 0), (.int .i64 0), (.int .i64 0), (.bool false)]) 32 rfl Try.underlying63 info108 rfl (by decide) (by omega) v143 y142 l0_0 _ _ _ (fun _ => True) (fun _ => False) rfl rfl ?aO ?aR (fun _ _ h => h) (fun _ h => h.elim) ?aF ?aB ?aS ?aL ?_; (case aR => repeat (first | exact (Kd.C_below HR0_0.out HB.out) | (with_reducible refine Kd.C_alloc ?_ _) | (with_reducible refine Kd.C_drewN ?_ _) | (with_reducible refine Kd.C_drew ?_))); (case aB => exact tB); (case aF => exact (fun _ _ => trivial)); (case aO => exact (tR HO144)); (case aS => exact (below_size tB)); (case aL => have := LMc5.out; omega); intro v146 w14 ho hb hg hat; rw [← Ny145.out] at ho; replace BK140 := Aside0.mk (blk_grown (g := gb140) (o := .cells #[.slice A0_0 l0_0.length c0_0] 65 (0, 0)) (tK BK140) hg (Kd.R_ne HO144.out BK140.out (by decide))); replace BK141 := Aside0.mk (blk_grown (g := gb141) (o := .cells #[.slice none 0 0] 65 (0, 0)) (tK BK141) hg (Kd.R_ne HO144.out BK141.out (by decide))); replace HB := Aside0.mk (hb); have HO147 := Aside0.mk (ho); clear HO144; clear ho hb hg hat) | ((with_reducible refine gate_builtin (b := .append) (xs := #[.tmp 18, .tmp 23]) rfl ?_); at_builtin; refine Kd.R_append k108 (w0 := w) w.heap.size rfl (.tmp 18) (.tmp 23) 63 108 (.agg #[(.int .i64 0), (.int .i64 0), (.int .i64 0), (.bool false)]) 32 rfl Try.underlying63 info108 rfl (by decide) (by omega) v146 y145 (⟨a1, a2, a3, false⟩ : S108) [.int .i64 a1, .int .i64 a2, .int .i64 a3, .bool false] (fun _ => True) (fun _ => False) rfl rfl ?aP (fun _ hk => hk.elim) ?aF ?aO ?aB ?aS ?aL ?_; (case aP => exact k108_mkM _ _ _ (⟨a1, a2, a3, false⟩ : S108)); (case aB => exact tB); (case aF => exact (fun _ _ => trivial)); (case aO => exact (tR HO147)); (case aS => exact (below_size tB)); (case aL => have := LMc6.out; omega); intro v149 w15 ho hb hg hat; rw [← Ny148.out] at ho; replace BK140 := Aside0.mk (blk_grown (g := gb140) (o := .cells #[.slice A0_0 l0_0.length c0_0] 65 (0, 0)) (tK BK140) hg (Kd.R_ne HO147.out BK140.out (by decide))); replace BK141 := Aside0.mk (blk_grown (g := gb141) (o := .cells #[.slice none 0 0] 65 (0, 0)) (tK BK141) hg (Kd.R_ne HO147.out BK141.out (by decide))); replace HB := Aside0.mk (hb); have HO150 := Aside0.mk (ho); clear HO147; clear ho hb hg hat; obtain ⟨Ao16, co16, eo16⟩ := Kd.R_slice HO150.out; subst eo16))
   (try simp only [Act.put, List.setIfInBounds_toArray, List.set_cons_zero, List.set_cons_succ])
   go_cut [10] (fun v10 wc => ∃ (kq : Nat) (x10_6 : List (S108)), Aside0 (spec_SendNotice.j1 kq x10_6 l0_0 = some (r1, r2)) ∧ Aside0 (kq ≤ k) ∧ Aside0 (Kd.R k108 108 wc w.heap.size (fun _ => True) v10 x10_6) ∧ Aside0 (wc.heap[gb140]? = some (.cells #[(.slice A0_0 l0_0.length c0_0)] 65 (0, 0))) ∧ Aside0 (wc.heap[gb141]? = some (.cells #[(.slice none 0 0)] 65 (0, 0))) ∧ Aside0 (Below w.heap.size w wc))
   case first =>
    have H := HC7.out
    clear HC7
    by_cases c17 : (y148.length : Int) > 30
    ·rw [if_pos c17] at H
     have c17b0 : decide (30 < (y148.length : Int)) = true := decide_eq_true c17
     have c17b1 : decide (30 < y148.length) = true := decide_eq_true (by omega)
     clear c17
     (first | rw [c17b0] | (simp only [i64_w, i32_w]; rw [c17b0]) | skip)
     have H' := Aside0.mk H
     clear H
     go_wp2
     go_loopg [11, 12] k (fun kq v11 v12 w' => ∃ (x11_1 : Int) (x12_1 : Int), v11 = .int .i64 x11_1 ∧ v12 = .int .i64 x12_1 ∧ Aside0 (spec_SendNotice.l0 kq y148 x11_1 x12_1 l0_0 = some (r1, r2)) ∧ Aside0 (kq ≤ k) ∧ Aside0 (Kd.R k108 108 w' w.heap.size (fun _ => True) (.slice Ao16 y148.length co16) y148) ∧ Aside0 (w'.heap[gb140]? = some (.cells #[(.slice A0_0 l0_0.length c0_0)] 65 (0, 0))) ∧ Aside0 (w'.heap[gb141]? = some (.cells #[(.slice none 0 0)] 65 (0, 0))) ∧ Aside0 (Below w.heap.size w w'))
     case atStart => exact ⟨(0), (wrap64 ((y148.length : Int) - 1)), tS, tS, H', ⟨Nat.le_refl _⟩, ⟨tR HO150⟩, ⟨tK BK140⟩, ⟨tK BK141⟩, ⟨tB⟩⟩
     case round =>
      clear H'
      try clear c1
      try clear p2
      try clear c5
      try clear c6
      try clear p6
      try clear c12
      try clear c17
      try clear c17b0
      try clear c17b1
      try clear hcz13_0
      try clear hfz13_0
      obtain ⟨x11_1, x12_1, rfl, rfl, HA, HK1, HO_10, BK140, BK141, HB⟩ := hrel
      cases gk with
      | zero => exact absurd HA.out (by simp [spec_SendNotice.l0])
      | succ k1 =>
       have H := HA.out
       clear HA
       simp only [spec_SendNotice.l0] at H
       by_cases c18 : x12_1 ≥ 0
       ·rw [if_pos c18] at H
        have c18b0 : decide (0 ≤ x12_1) = true := decide_eq_true c18
        clear c18
        by_cases c19 : 0 ≤ x12_1
        ·rw [if_pos c19] at H
         have c19b0 : decide (0 ≤ x12_1) = true := decide_eq_true c19
         clear c19
         by_cases c20 : x12_1 < (y148.length : Int)
         ·rw [if_pos c20] at H
          have c20b0 : decide (x12_1 < (y148.length : Int)) = true := decide_eq_true c20
          clear c20
          obtain ⟨bq21, hbq21⟩ : ∃ b_ : Bool, b_ = ((rd_T108 y148 x12_1).f3) := ⟨_, rfl⟩
          replace H : (if bq21 = true then (spec_SendNotice.l0 k1 y148 x12_1 (wrap64 (x12_1 - 1)) l0_0) else (spec_SendNotice.l0 k1 y148 x11_1 (wrap64 (x12_1 - 1)) l0_0)) = some (r1, r2) := by rw [← hbq21] at H; exact H
          have Nbq21 := Aside0.mk hbq21
          clear hbq21
          by_cases c22 : bq21 = true
          ·subst c22
           have H1 : (spec_SendNotice.l0 k1 y148 x12_1 (wrap64 (x12_1 - 1)) l0_0) = some (r1, r2) := by rw [if_pos rfl] at H; exact H
           clear H
           have H := H1
           clear H1
           have H' := Aside0.mk H
           clear H
           have p151 : 0 ≤ (x12_1 : Int) := of_decide_eq_true tA
           have q151 : x12_1 < (y148.length : Int) := of_decide_eq_true tA
           obtain ⟨ad151, e151, hx151_0, hx151_1, hx151_2, hx151_3⟩ := at_T108 (Kd.R_reads' HO_10.out).2.2 x12_1 p151 q151
           (try rw [← Nbq21.out] at hx151_3)
           cases e151
           replace p151 := eq_true p151
           replace q151 := eq_true q151
           go_wp2
           go_roundg k1
           case measure => have := HK1.out; omega
           case rel => exact ⟨(x12_1), (wrap64 (x12_1 - 1)), tS, tS, H', ⟨tI⟩, ⟨tR HO_10⟩, ⟨tK BK140⟩, ⟨tK BK141⟩, ⟨tB⟩⟩
          replace c22 := Bool.eq_false_iff.mpr c22
          subst c22
          have H1 : (spec_SendNotice.l0 k1 y148 x11_1 (wrap64 (x12_1 - 1)) l0_0) = some (r1, r2) := by rw [if_neg (show ¬ (false = true) by decide)] at H; exact H
          clear H
          have H := H1
          clear H1
          have H' := Aside0.mk H
          clear H
          have p151 : 0 ≤ (x12_1 : Int) := of_decide_eq_true tA
          have q151 : x12_1 < (y148.length : Int) := of_decide_eq_true tA
          obtain ⟨ad151, e151, hx151_0, hx151_1, hx151_2, hx151_3⟩ := at_T108 (Kd.R_reads' HO_10.out).2.2 x12_1 p151 q151
          (try rw [← Nbq21.out] at hx151_3)
          cases e151
          replace p151 := eq_true p151
          replace q151 := eq_true q151
          go_wp2
          go_roundg k1
          case measure => have := HK1.out; omega
          case rel => exact ⟨(x11_1), (wrap64 (x12_1 - 1)), tS, tS, H', ⟨tI⟩, ⟨tR HO_10⟩, ⟨tK BK140⟩, ⟨tK BK141⟩, ⟨tB⟩⟩
         rw [if_neg c20] at H
         exact absurd H (by simp)
        rw [if_neg c19] at H
        exact absurd H (by simp)
       rw [if_neg c18] at H
       have c18b0 : decide (0 ≤ x12_1) = false := decide_eq_false c18
       clear c18
       obtain ⟨y152, hy152⟩ : ∃ y_ : List (S108), y_ = (([] : List (S108))) := ⟨_, rfl⟩
       replace H : (if 0 ≤ x11_1 then (if x11_1 ≤ (y148.length : Int) then ((some (y148.take (x11_1 : Int).toNat : List (S108))).bind fun y155 => (if y152.length + y155.length < 4398046511104 then ((some (y152 ++ y155 : List (S108))).bind fun y159 => (if 0 ≤ (wrap64 (x11_1 + 1)) then (if (wrap64 (x11_1 + 1)) ≤ (y148.length : Int) then ((some (y148.drop ((wrap64 (x11_1 + 1)) : Int).toNat : List (S108))).bind fun y162 => (if y159.length + y162.length < 4398046511104 then (spec_SendNotice.j1 k1 (y159 ++ y162) l0_0) else (none))) else (none)) else (none))) else (none))) else (none)) else (none)) = some (r1, r2) := by first | (rw [hy152]; with_reducible exact H) | (have H2_ := (Option.bind_some _ _).symm.trans H; rw [hy152]; with_reducible exact H2_) | (have H2_ := (Option.bind_some _ _).symm.trans H; with_reducible exact H2_) | with_reducible exact H | (rw [hy152]; exact H) | exact H
       have Ny152 := Aside0.mk hy152
       clear hy152
       by_cases c23 : 0 ≤ x11_1
       ·rw [if_pos c23] at H
        have c23b0 := eq_true c23
        have c23b1 : decide (0 ≤ x11_1) = true := decide_eq_true c23
        clear c23
        by_cases c24 : x11_1 ≤ (y148.length : Int)
        ·rw [if_pos c24] at H
         have c24b0 := eq_true c24
         have c24b1 : decide (x11_1 ≤ (y148.length : Int)) = true := decide_eq_true c24
         clear c24
         obtain ⟨y155, hy155⟩ : ∃ y_ : List (S108), y_ = (y148.take (x11_1 : Int).toNat) := ⟨_, rfl⟩
         replace H : (if y152.length + y155.length < 4398046511104 then ((some (y152 ++ y155 : List (S108))).bind fun y159 => (if 0 ≤ (wrap64 (x11_1 + 1)) then (if (wrap64 (x11_1 + 1)) ≤ (y148.length : Int) then ((some (y148.drop ((wrap64 (x11_1 + 1)) : Int).toNat : List (S108))).bind fun y162 => (if y159.length + y162.length < 4398046511104 then (spec_SendNotice.j1 k1 (y159 ++ y162) l0_0) else (none))) else (none)) else (none))) else (none)) = some (r1, r2) := by first | (rw [hy155]; with_reducible exact H) | (have H2_ := (Option.bind_some _ _).symm.trans H; rw [hy155]; with_reducible exact H2_) | (have H2_ := (Option.bind_some _ _).symm.trans H; with_reducible exact H2_) | with_reducible exact H | (rw [hy155]; exact H) | exact H
         have Ny155 := Aside0.mk hy155
         clear hy155
         by_cases c25 : y152.length + y155.length < 4398046511104
         ·rw [if_pos c25] at H
          have LMc25 := Aside0.mk c25
          clear c25
          obtain ⟨y159, hy159⟩ : ∃ y_ : List (S108), y_ = (y152 ++ y155) := ⟨_, rfl⟩
          replace H : (if 0 ≤ (wrap64 (x11_1 + 1)) then (if (wrap64 (x11_1 + 1)) ≤ (y148.length : Int) then ((some (y148.drop ((wrap64 (x11_1 + 1)) : Int).toNat : List (S108))).bind fun y162 => (if y159.length + y162.length < 4398046511104 then (spec_SendNotice.j1 k1 (y159 ++ y162) l0_0) else (none))) else (none)) else (none)) = some (r1, r2) := by first | (rw [hy159]; with_reducible exact H) | (have H2_ := (Option.bind_some _ _).symm.trans H; rw [hy159]; with_reducible exact H2_) | (have H2_ := (Option.bind_some _ _).symm.trans H; with_reducible exact H2_) | with_reducible exact H | (rw [hy159]; exact H) | exact H
          have Ny159 := Aside0.mk hy159
          clear hy159
          obtain ⟨ji26, hji26⟩ : ∃ j_ : Int, (wrap64 (x11_1 + 1)) = j_ := ⟨_, rfl⟩
          replace H : (if 0 ≤ (ji26) then (if (ji26) ≤ (y148.length : Int) then ((some (y148.drop ((ji26) : Int).toNat : List (S108))).bind fun y162 => (if y159.length + y162.length < 4398046511104 then (spec_SendNotice.j1 k1 (y159 ++ y162) l0_0) else (none))) else (none)) else (none)) = some (r1, r2) := by first | (rw [hji26] at H; exact H) | (simp only [hji26] at H ⊢; exact H)
          have hji26w : (IntKind.i64.wrap (x11_1 + 1)) = ji26 := (i64_w _).trans hji26
          by_cases c27 : 0 ≤ (ji26)
          ·rw [if_pos c27] at H
           have c27b0 := eq_true c27
           have c27b1 : decide (0 ≤ (ji26)) = true := decide_eq_true c27
           clear c27
           by_cases c28 : (ji26) ≤ (y148.length : Int)
           ·rw [if_pos c28] at H
            have c28b0 := eq_true c28
            have c28b1 : decide ((ji26) ≤ (y148.length : Int)) = true := decide_eq_true c28
            clear c28
            obtain ⟨y162, hy162⟩ : ∃ y_ : List (S108), y_ = (y148.drop ((ji26) : Int).toNat) := ⟨_, rfl⟩
            replace H : (if y159.length + y162.length < 4398046511104 then (spec_SendNotice.j1 k1 (y159 ++ y162) l0_0) else (none)) = some (r1, r2) := by first | (rw [hy162]; with_reducible exact H) | (have H2_ := (Option.bind_some _ _).symm.trans H; rw [hy162]; with_reducible exact H2_) | (have H2_ := (Option.bind_some _ _).symm.trans H; with_reducible exact H2_) | with_reducible exact H | (rw [hy162]; exact H) | exact H
            have Ny162 := Aside0.mk hy162
            clear hy162
            by_cases c29 : y159.length + y162.length < 4398046511104
            ·rw [if_pos c29] at H
             have LMc29 := Aside0.mk c29
             clear c29
             obtain ⟨y166, hy166⟩ : ∃ y_ : List (S108), y_ = (y159 ++ y162) := ⟨_, rfl⟩
             replace H : (spec_SendNotice.j1 k1 y166 l0_0) = some (r1, r2) := by first | (rw [hy166]; with_reducible exact H) | (have H2_ := (Option.bind_some _ _).symm.trans H; rw [hy166]; with_reducible exact H2_) | (have H2_ := (Option.bind_some _ _).symm.trans H; with_reducible exact H2_) | with_reducible exact H | (rw [hy166]; exact H) | exact H
             have Ny166 := Aside0.mk hy166
             clear hy166
             have H' := Aside0.mk H
             clear H
             try go_wp2
             replace HO_10 := Aside0.mk (Kd.R_drew HO_10.out)
             replace BK140 := Aside0.mk (blk_drew BK140.out)
             replace BK141 := Aside0.mk (blk_drew BK141.out)
             replace HB := Aside0.mk (below_drew1 HB.out)
             have q31 : (x11_1 : Int) ≤ ((y148.length : Int) : Int) := of_decide_eq_true tA
             obtain ⟨i031, hi031, _, hsz31, _⟩ := info_parts info108
             have hroom31 : y148.length ≤ co16 := (Kd.R_reads' HO_10.out).2.1
             have hC31 : Kd.C k108 _ Ao16 y148.length y148 := (Kd.R_reads' HO_10.out).2.2
             have hcut31 := cut_to (P := Try.prog) 63 108 .i64 Try.underlying63 hi031 Ao16 y148.length co16 x11_1 (of_decide_eq_true tA) q31 hroom31
             have hr31 := Kd.C_take (m := (x11_1 : Int).toNat) hC31 (by omega)
             have hy31 : y155.length = (x11_1 : Int).toNat := (by rw [Ny155.out, List.length_take]; omega)
             rw [← Ny155.out] at hr31
             rw [← hy31] at hcut31
             have HR158 := Aside0.mk hr31
             have HC158 := Aside0.mk (show y155.length ≤ co16 from by omega)
             clear hr31 hC31 hroom31 hi031 hsz31
             have KY31 := Aside0.mk hy31
             clear hy31
             have KL31 := Aside0.mk (show (x11_1 : Int).toNat ≤ y148.length from by omega)
             replace q31 := eq_true q31
             have q32 : ((ji26) : Int) ≤ ((y148.length : Int) : Int) := of_decide_eq_true tA
             obtain ⟨i032, hi032, _, hsz32, _⟩ := info_parts info108
             have hroom32 : y148.length ≤ co16 := (Kd.R_reads' HO_10.out).2.1
             have hC32 : Kd.C k108 _ Ao16 y148.length y148 := (Kd.R_reads' HO_10.out).2.2
             have q032 : (0 : Int) ≤ ((ji26) : Int) := of_decide_eq_true tA
             have hcut32 := cut_from (P := Try.prog) 63 108 .i64 Try.underlying63 hi032 4 hsz32 Ao16 y148.length co16 (ji26) q032 q32
             have hr32 := Kd.C_drop (m := ((ji26) : Int).toNat) (c := co16) hC32 (by omega) hroom32
             obtain ⟨A32, hA32⟩ : ∃ A1, A1 = (if co16 = ((ji26) : Int).toNat then Ao16 else (Ao16 : Option Addr).map (·.add (((ji26) : Int).toNat * 4))) := ⟨_, rfl⟩
             obtain ⟨c32, hc32⟩ : ∃ c1, c1 = co16 - ((ji26) : Int).toNat := ⟨_, rfl⟩
             have hy32 : y162.length = y148.length - ((ji26) : Int).toNat := (by rw [Ny162.out, List.length_drop] <;> omega)
             rw [show (y148).drop ((ji26) : Int).toNat = y162 from Ny162.out.symm] at hr32
             replace hr32 : Kd.C k108 _ A32 y162.length y162 := (by rw [hA32]; exact hr32)
             rw [← hy32, ← hA32, ← hc32] at hcut32
             have HR165 := Aside0.mk hr32
             have HC165 := Aside0.mk (show y162.length ≤ c32 from by rw [hy32, hc32]; exact Nat.sub_le_sub_right hroom32 _)
             clear hr32 hC32 hroom32 hi032 hsz32 hc32
             have KY32 := Aside0.mk hy32
             have KA32 := Aside0.mk hA32
             clear hy32 hA32
             have KL32 := Aside0.mk (show ((ji26) : Int).toNat ≤ y148.length from by omega)
             replace q32 := eq_true q32
             refine start_ (n := 11) (S := fun w' => True) (ds := []) #[N_,N_,N_,N_,N_,N_,N_,N_,N_,N_,N_] (by kernel_rfl) rfl rfl trivial (fun hHeld => ?_); refine with_tabW spec_SendNotice.tab10 spec_SendNotice.bits10 (fun HT_ HW_ => ?_)
             generalize wr.drew = w30 at HO_10 BK140 BK141 HB HR158 HR165 hHeld ⊢
             refine pure_ (i := 1) (N := some 42) #[N_,Y_,N_,N_,N_,N_,N_,N_,N_,N_,N_] rfl rfl (any_of HT_.out (by kernel_rfl)) (fun _ _ _ h => h) (Or.inl ⟨by rfl, tX⟩) tV ?_
             refine pure_ (i := 2) (N := some 43) #[N_,Y_,Y_,N_,N_,N_,N_,N_,N_,N_,N_] rfl rfl (any_of HT_.out (by kernel_rfl)) (fun _ _ _ h => h) (Or.inl ⟨by rfl, tX⟩) tV ?_
             refine pure_ (i := 3) (N := some 44) #[N_,Y_,Y_,Y_,N_,N_,N_,N_,N_,N_,N_] rfl rfl (any_of HT_.out (by kernel_rfl)) (fun _ _ _ h => h) (Or.inl ⟨by rfl, tX⟩) tV ?_
             refine pure_ (i := 5) (N := some 46) #[N_,Y_,Y_,Y_,N_,Y_,N_,N_,N_,N_,N_] rfl rfl (any_of HT_.out (by kernel_rfl)) (fun _ _ _ h => h) (Or.inl ⟨by rfl, tX⟩) tV ?_
             refine pure_ (i := 6) (N := some 47) #[N_,Y_,Y_,Y_,N_,Y_,Y_,N_,N_,N_,N_] rfl rfl (any_of HT_.out (by kernel_rfl)) (fun _ _ _ h => h) (Or.inl ⟨by rfl, tX⟩) tV ?_
             refine pure_ (i := 7) (N := some 48) #[N_,Y_,Y_,Y_,N_,Y_,Y_,Y_,N_,N_,N_] rfl rfl (any_of HT_.out (by kernel_rfl)) (fun _ _ _ h => h) (Or.inl ⟨by rfl, tX⟩) tV ?_
             refine pure_ (i := 8) (N := some 49) #[N_,Y_,Y_,Y_,N_,Y_,Y_,Y_,Y_,N_,N_] rfl rfl (any_of HT_.out (by kernel_rfl)) (fun _ _ _ h => h) (Or.inl ⟨by rfl, tX⟩) tV ?_
             refine one_ (i := 0) (N := some 41) #[Y_,Y_,Y_,Y_,N_,Y_,Y_,Y_,Y_,N_,N_] rfl rfl (one_of HT_.out (by kernel_rfl)) (by decide) (fun K hK => ?_)
             refine Kd.R_lit_step k108 _ 108 ?hg (N := 41) ?hd (xs := ([] : List (S108))) (inner := []) (ok := fun _ => True) (okp := fun _ => True) ?hr ?hp (fun _ hk => hk) trivial (Below.refl _ _) (Nat.le_refl _) (by simp) ?_; (case hd => rfl); (case hg => rfl); (case hr => exact tG); (case hp => exact (Reps.none _ _))
             intro v153 w33 ho34 hb hg_ hnew_
             clear hg_ hnew_
             (first | rw [← Ny152.out] at ho34 | (simp only [Int.reduceToNat] at ho34; rw [← Ny152.out] at ho34))
             have HO154 := Aside0.mk (Kd.R_lower (Kd.R_new' ho34 (Kd.R_lt (tR HO_10))) (below_size tB))
             replace HO_10 := Aside0.mk (Kd.R_elder' (tR HO_10) (Kd.R_base ho34) hb)
             replace BK140 := bB BK140 hb
             replace BK141 := bB BK141 hb
             replace HR158 := Aside0.mk (Kd.C_below (by repeat (first | (with_reducible exact HR158.out) | (with_reducible refine Kd.C_alloc ?_ _) | (with_reducible refine Kd.C_drewN ?_ _) | (with_reducible refine Kd.C_drew ?_) | exact HR158.out)) hb)
             replace HR165 := Aside0.mk (Kd.C_below (by repeat (first | (with_reducible exact HR165.out) | (with_reducible refine Kd.C_alloc ?_ _) | (with_reducible refine Kd.C_drewN ?_ _) | (with_reducible refine Kd.C_drew ?_) | exact HR165.out)) hb)
             replace HB := bH HB hb
             clear hb ho34
             refine hK.out _ _ trivial (fun hHeld => ?_)
             clear hK K
             refine norm_ (tV : Act.put _ (some 41) _ = _) ?_
             refine one_ (i := 4) (N := some 45) #[Y_,Y_,Y_,Y_,Y_,Y_,Y_,Y_,Y_,N_,N_] rfl rfl (one_of HT_.out (by kernel_rfl)) (by decide) (fun K hK => ?_)
             refine Kd.R_append_rows_step k108 (w0 := w) w.heap.size (by rfl) (.tmp 41) (.tmp 44) 63 108 (.agg #[(.int .i64 0), (.int .i64 0), (.int .i64 0), (.bool false)]) 32 rfl Try.underlying63 info108 rfl (by decide) (by omega) v153 y152 y155 _ _ _ (fun k_ => some k_ ≠ (.slice Ao16 y148.length co16 : Value).ownBlock) (fun _ => False) rfl rfl ?aO ?aR (fun _ _ h => h) (fun _ h => h.elim) ?aF ?aB ?aS ?aL ?_
             (case aR => repeat (first | exact (by repeat (first | (with_reducible exact HR158.out) | (with_reducible refine Kd.C_alloc ?_ _) | (with_reducible refine Kd.C_drewN ?_ _) | (with_reducible refine Kd.C_drew ?_) | exact HR158.out)) | (with_reducible refine Kd.C_alloc ?_ _) | (with_reducible refine Kd.C_drewN ?_ _) | (with_reducible refine Kd.C_drew ?_)))
             (case aB => exact tB)
             (case aF => exact (fun k_ hk => Kd.fresh' (Kd.R_lt (tR HO_10)) k_ hk))
             (case aO => exact (by (with_reducible repeat (first | apply Kd.R_alloc | apply Kd.R_drewN | apply Kd.R_drew)); exact Kd.R_mono HO154.out (fun _ hk => hk.2)))
             (case aS => exact (below_size tB))
             (case aL => have := LMc25.out; omega)
             intro v160 w35 ho hb hg hat
             rw [← Ny159.out] at ho
             replace BK140 := Aside0.mk (blk_grown (g := gb140) (o := .cells #[.slice A0_0 l0_0.length c0_0] 65 (0, 0)) (tK BK140) hg (Kd.R_ne HO154.out BK140.out (by decide)))
             replace BK141 := Aside0.mk (blk_grown (g := gb141) (o := .cells #[.slice none 0 0] 65 (0, 0)) (tK BK141) hg (Kd.R_ne HO154.out BK141.out (by decide)))
             replace HB := Aside0.mk (hb)
             replace HR158 := Aside0.mk ((show Kd.C k108 w35 Ao16 y155.length y155 from by rw [Ny155.out]; exact Kd.C_take (m := (x11_1 : Int).toNat) ((Kd.R_reads' (Kd.R_after (ok := (fun _ => True)) (tR HO_10) hg hat)).2.2) KL31.out))
             replace HR165 := Aside0.mk ((show Kd.C k108 w35 A32 y162.length y162 from by rw [Ny162.out, KA32.out]; exact Kd.C_drop (m := ((ji26) : Int).toNat) (c := co16) ((Kd.R_reads' (Kd.R_after (ok := (fun _ => True)) (tR HO_10) hg hat)).2.2) KL32.out ((Kd.R_reads' (Kd.R_after (ok := (fun _ => True)) (tR HO_10) hg hat)).2.1)))
             replace HO_10 := Aside0.mk (Kd.R_after (ok := (fun _ => True)) (tR HO_10) hg hat)
             have HO161 := Aside0.mk (ho)
             clear HO154
             clear ho hb hg hat
             refine hK.out _ _ trivial (fun hHeld => ?_)
             clear hK K
             refine norm_ (tV : Act.put _ (some 45) _ = _) ?_
             refine one_ (i := 9) (N := some 50) #[Y_,Y_,Y_,Y_,Y_,Y_,Y_,Y_,Y_,Y_,N_] rfl rfl (one_of HT_.out (by kernel_rfl)) (by decide) (fun K hK => ?_)
             refine Kd.R_append_rows_step k108 (w0 := w) w.heap.size (by rfl) (.tmp 45) (.tmp 49) 63 108 (.agg #[(.int .i64 0), (.int .i64 0), (.int .i64 0), (.bool false)]) 32 rfl Try.underlying63 info108 rfl (by decide) (by omega) v160 y159 y162 _ _ _ (fun k_ => some k_ ≠ (.slice Ao16 y148.length co16 : Value).ownBlock) (fun _ => False) rfl rfl ?aO ?aR (fun _ _ h => h) (fun _ h => h.elim) ?aF ?aB ?aS ?aL ?_
             (case aR => repeat (first | exact (by repeat (first | (with_reducible exact HR165.out) | (with_reducible refine Kd.C_alloc ?_ _) | (with_reducible refine Kd.C_drewN ?_ _) | (with_reducible refine Kd.C_drew ?_) | exact HR165.out)) | (with_reducible refine Kd.C_alloc ?_ _) | (with_reducible refine Kd.C_drewN ?_ _) | (with_reducible refine Kd.C_drew ?_)))
             (case aB => exact tB)
             (case aF => exact (fun k_ hk => Kd.fresh' (Kd.R_lt (tR HO_10)) k_ hk))
             (case aO => exact (tR HO161))
             (case aS => exact (below_size tB))
             (case aL => have := LMc29.out; omega)
             intro v167 w36 ho hb hg hat
             rw [← Ny166.out] at ho
             replace BK140 := Aside0.mk (blk_grown (g := gb140) (o := .cells #[.slice A0_0 l0_0.length c0_0] 65 (0, 0)) (tK BK140) hg (Kd.R_ne HO161.out BK140.out (by decide)))
             replace BK141 := Aside0.mk (blk_grown (g := gb141) (o := .cells #[.slice none 0 0] 65 (0, 0)) (tK BK141) hg (Kd.R_ne HO161.out BK141.out (by decide)))
             replace HB := Aside0.mk (hb)
             replace HR158 := Aside0.mk ((show Kd.C k108 w36 Ao16 y155.length y155 from by rw [Ny155.out]; exact Kd.C_take (m := (x11_1 : Int).toNat) ((Kd.R_reads' (Kd.R_after (ok := (fun _ => True)) (tR HO_10) hg hat)).2.2) KL31.out))
             replace HR165 := Aside0.mk ((show Kd.C k108 w36 A32 y162.length y162 from by rw [Ny162.out, KA32.out]; exact Kd.C_drop (m := ((ji26) : Int).toNat) (c := co16) ((Kd.R_reads' (Kd.R_after (ok := (fun _ => True)) (tR HO_10) hg hat)).2.2) KL32.out ((Kd.R_reads' (Kd.R_after (ok := (fun _ => True)) (tR HO_10) hg hat)).2.1)))
             replace HO_10 := Aside0.mk (Kd.R_after (ok := (fun _ => True)) (tR HO_10) hg hat)
             have HO168 := Aside0.mk (ho)
             clear HO161
             clear ho hb hg hat
             refine hK.out _ _ trivial (fun hHeld => ?_)
             clear hK K
             refine norm_ (tV : Act.put _ (some 50) _ = _) ?_
             refine pure_ (i := 10) (N := some 10) #[Y_,Y_,Y_,Y_,Y_,Y_,Y_,Y_,Y_,Y_,Y_] rfl rfl (any_of HT_.out (by kernel_rfl)) (fun _ _ _ h => h) (Or.inl ⟨by rfl, tX⟩) tV ?_
             refine done_ (done_of HT_.out (by kernel_rfl)) ?_
             try go_wp2
             go_meet
             case rel => exact ⟨_, (y166), H', ⟨by have := HK1.out; first | omega | exact Nat.le_refl _⟩, ⟨by (with_reducible repeat (first | apply Kd.R_alloc | apply Kd.R_drewN | apply Kd.R_drew)); exact Kd.R_mono HO168.out (fun _ hk => trivial)⟩, ⟨tK BK140⟩, ⟨tK BK141⟩, ⟨tB⟩⟩
            rw [if_neg c29] at H
            exact absurd H (by simp)
           rw [if_neg c28] at H
           exact absurd H (by simp)
          rw [if_neg c27] at H
          exact absurd H (by simp)
         rw [if_neg c25] at H
         exact absurd H (by simp)
        rw [if_neg c24] at H
        exact absurd H (by simp)
       rw [if_neg c23] at H
       exact absurd H (by simp)
    rw [if_neg c17] at H
    have c17b0 : decide (30 < (y148.length : Int)) = false := decide_eq_false c17
    have c17b1 : decide (30 < y148.length) = false := decide_eq_false (by omega)
    clear c17
    (first | rw [c17b0] | (simp only [i64_w, i32_w]; rw [c17b0]) | skip)
    have H' := Aside0.mk H
    clear H
    go_wp2
    go_meet
    case rel => exact ⟨_, (y148), H', ⟨by first | omega | exact Nat.le_refl _⟩, ⟨tR HO150⟩, ⟨tK BK140⟩, ⟨tK BK141⟩, ⟨tB⟩⟩
   case rest =>
    clear HC7
    try clear c1
    try clear p1
    try clear q1
    try clear hx1
    try clear c2
    try clear p2
    try clear q2
    try clear c3
    try clear q3
    try clear c5
    try clear c6
    try clear p6
    try clear c12
    try clear p15
    try clear q15
    try clear hx15
    try clear c17
    try clear c17b0
    try clear c17b1
    try clear c18
    try clear c18b0
    try clear c19
    try clear c19b0
    try clear c20
    try clear c20b0
    try clear q21
    try clear c22
    try clear c23
    try clear c23b0
    try clear c23b1
    try clear c24
    try clear c24b0
    try clear c24b1
    try clear c25
    try clear c27
    try clear c27b0
    try clear c27b1
    try clear c28
    try clear c28b0
    try clear c28b1
    try clear c29
    try clear q31
    try clear c32
    try clear q32
    try clear hcz13_0
    try clear hfz13_0
    try clear hx151_0
    try clear hx151_1
    try clear hx151_2
    try clear hx151_3
    try clear p151
    try clear p2
    try clear p6
    try clear q032
    try clear q151
    try clear q31
    try clear q32
    obtain ⟨kq, x10_6, HA, HJ6, HO_10, BK140, BK141, HB⟩ := hcut
    cases kq with
    | zero => exact absurd HA.out (by simp [spec_SendNotice.j1])
    | succ kj6 =>
     have H := HA.out
     clear HA
     simp only [spec_SendNotice.j1] at H
     replace H := Option.bind_eq_some_iff.mp H
     obtain ⟨t170, A370, H⟩ := H
     try dsimp only at H
     have A37 := Aside0.mk A370
     clear A370
     by_cases c38 : t170 = true
     ·subst c38
      have H1 : ((spec_IsValidMailbox.f kj6 x10_6).bind fun t171 => (if t171 = true then (some (x10_6, true)) else ((spec_l31Copy.f l0_0).bind fun t172 => (some (t172, false))))) = some (r1, r2) := by rw [if_pos rfl] at H; exact H
      clear H
      have H := H1
      clear H1
      replace H := Option.bind_eq_some_iff.mp H
      obtain ⟨t171, A390, H⟩ := H
      try dsimp only at H
      have A39 := Aside0.mk A390
      clear A390
      by_cases c40 : t171 = true
      ·subst c40
       have H1 : (some (x10_6, true)) = some (r1, r2) := by rw [if_pos rfl] at H; exact H
       clear H
       have H := H1
       clear H1
       simp only [Option.some.injEq, Prod.mk.injEq] at H
       obtain ⟨rfl, rfl⟩ := H
       obtain ⟨Ao41, co41, eo41⟩ := Kd.R_slice HO_10.out
       subst eo41
       go_wp2_with (first | ((with_reducible refine gate_dst (N := 13) rfl ?_); refine box_event ?hg (N := 13) ?hd (cs := #[.slice none 0 0]) (t := 65) ?hr ?_; (case hd => rfl); (case hg => rfl); (case hr => exact tG); intro gb169 hg w42 hbox hb; replace HO_10 := Aside0.mk (Kd.R_below (tR HO_10) hb); have BK169 := Aside0.mk (hbox); have GW169 := gW HB hg; have GE169 := gW HB hg; replace HB := bH HB hb; have NB140_169 := nL BK140 hg; have NB169_140 := nR BK140 hg; replace BK140 := bB BK140 hb; have NB141_169 := nL BK141 hg; have NB169_141 := nR BK141 hg; replace BK141 := bB BK141 hb; clear hb hbox hg; have hnb43 := NB169_140.out; have hnc43 := NB140_169.out; have hnb44 := NB169_141.out; have hnc44 := NB141_169.out; obtain ⟨hcz45_0, hfz45_0⟩ := bc1 BK169.out; have hnb46 := NB140_141.out; have hnc46 := NB141_140.out; obtain ⟨hcz47_0, hfz47_0⟩ := bc1 BK140.out) | ((with_reducible refine gate_callee (f := 102) rfl ?_); refine goesL_ (some 54) rfl rfl Try.func102 (by kernel_rfl) rfl #[.agg #[.slice A0_0 l0_0.length c0_0]] rfl tL ?_; (with_reducible refine (spec_IsValidMailbox.calls kj6 _ _ l0_0 true _ ?side1 ?side2 A37.out).mono ?_); (case side1 => exact Kd.C_below HR0_0.out tB); (case side2 => exact HC0_0.out); rintro e w48 ⟨rfl, hb⟩; refine ⟨_, rfl, ?_⟩; replace HO_10 := Aside0.mk (Kd.R_below (by (with_reducible repeat (first | apply Kd.R_alloc | apply Kd.R_drewN | apply Kd.R_drew)); exact (Kd.R_mono (Kd.R_far (p := ⟨gb169, 0, none⟩) (Kd.R_types HO_10.out BK169.out (by decide)) (fun _ hk => hk.2) (.slice Ao41 x10_6.length co41)) (fun _ h_ => h_.1))) hb); replace BK140 := Aside0.mk (blk_below (g := gb140) (o := .cells #[.slice A0_0 l0_0.length c0_0] 65 (0, 0)) (kF NB140_169 BK140) hb); replace BK141 := Aside0.mk (blk_below (g := gb141) (o := .cells #[.slice none 0 0] 65 (0, 0)) (kF NB141_169 BK141) hb); replace BK169 := Aside0.mk (blk_below (g := gb169) (o := .cells #[.slice Ao41 x10_6.length co41] 65 (0, 0)) (by (with_reducible repeat (first | refine blk_drewN ?_ _ | refine blk_drew ?_ | refine blk_alloc ?_ _)); refine blk_put (cs := #[.slice none 0 0]) ?_ 0 _ rfl; (with_reducible repeat (first | refine blk_drewN ?_ _ | refine blk_drew ?_ | refine blk_alloc ?_ _)); exact BK169.out) hb); replace HB := bH HB hb; (try clear hb); (try clear hb2); (try clear hk); (try clear hi); obtain ⟨hcz49_0, hfz49_0⟩ := bc1 BK169.out) | (go_at_call 102; (with_reducible refine (spec_IsValidMailbox.calls kj6 _ _ x10_6 true _ ?side1 ?side2 A39.out).mono ?_); (case side1 => repeat (first | exact (Kd.R_reads' HO_10.out).2.2 | (with_reducible refine Kd.C_alloc ?_ _) | (with_reducible refine Kd.C_drewN ?_ _) | (with_reducible refine Kd.C_drew ?_))); (case side2 => exact (Kd.R_reads' HO_10.out).2.1); rintro e w50 ⟨rfl, hb⟩; replace HO_10 := Aside0.mk (Kd.R_below (tR HO_10) hb); replace BK140 := bB BK140 hb; replace BK141 := bB BK141 hb; replace BK169 := bB BK169 hb; replace HB := bH HB hb; (try clear hb); (try clear hb2); (try clear hk); (try clear hi); obtain ⟨hcz51_0, hfz51_0⟩ := bc1 BK169.out; obtain ⟨hcz52_0, hfz52_0⟩ := bc1 BK141.out))
       refine bodyPost_ret (results_ct rfl _ _ gb141 65 #[.slice Ao41 x10_6.length co41] (0, 0) _ rfl (by (with_reducible repeat (first | refine blk_drewN ?_ _ | refine blk_drew ?_ | refine blk_alloc ?_ _)); refine blk_put (cs := #[.slice none 0 0]) ?_ 0 _ rfl; (with_reducible repeat (first | refine blk_drewN ?_ _ | refine blk_drew ?_ | refine blk_alloc ?_ _)); exact BK141.out) Try.underlying65 rfl (by kernel_rfl)) rfl ?_
       exact ⟨_, tE, by (with_reducible repeat (first | apply Kd.R_alloc | apply Kd.R_drewN | apply Kd.R_drew)); exact Kd.R_mono (Kd.R_far (p := ⟨gb141, 0, none⟩) (Kd.R_types HO_10.out BK141.out (by decide)) (fun _ hk => hk.2) (.slice Ao41 x10_6.length co41)) (fun _ hk => trivial), tB⟩
      replace c40 := Bool.eq_false_iff.mpr c40
      subst c40
      have H1 : ((spec_l31Copy.f l0_0).bind fun t172 => (some (t172, false))) = some (r1, r2) := by rw [if_neg (show ¬ (false = true) by decide)] at H; exact H
      clear H
      have H := H1
      clear H1
      replace H := Option.bind_eq_some_iff.mp H
      obtain ⟨t172, A530, H⟩ := H
      try dsimp only at H
      have A53 := Aside0.mk A530
      clear A530
      simp only [Option.some.injEq, Prod.mk.injEq] at H
      obtain ⟨rfl, rfl⟩ := H
      obtain ⟨Ao54, co54, eo54⟩ := Kd.R_slice HO_10.out
      subst eo54
      go_wp2_with (first | ((with_reducible refine gate_dst (N := 13) rfl ?_); refine box_event ?hg (N := 13) ?hd (cs := #[.slice none 0 0]) (t := 65) ?hr ?_; (case hd => rfl); (case hg => rfl); (case hr => exact tG); intro gb169 hg w55 hbox hb; replace HO_10 := Aside0.mk (Kd.R_below (tR HO_10) hb); have BK169 := Aside0.mk (hbox); have GW169 := gW HB hg; have GE169 := gW HB hg; replace HB := bH HB hb; have NB140_169 := nL BK140 hg; have NB169_140 := nR BK140 hg; replace BK140 := bB BK140 hb; have NB141_169 := nL BK141 hg; have NB169_141 := nR BK141 hg; replace BK141 := bB BK141 hb; clear hb hbox hg; have hnb56 := NB169_140.out; have hnc56 := NB140_169.out; have hnb57 := NB169_141.out; have hnc57 := NB141_169.out; obtain ⟨hcz58_0, hfz58_0⟩ := bc1 BK169.out; have hnb59 := NB140_141.out; have hnc59 := NB141_140.out; obtain ⟨hcz60_0, hfz60_0⟩ := bc1 BK140.out) | ((with_reducible refine gate_callee (f := 102) rfl ?_); refine goesL_ (some 54) rfl rfl Try.func102 (by kernel_rfl) rfl #[.agg #[.slice A0_0 l0_0.length c0_0]] rfl tL ?_; (with_reducible refine (spec_IsValidMailbox.calls kj6 _ _ l0_0 true _ ?side1 ?side2 A37.out).mono ?_); (case side1 => exact Kd.C_below HR0_0.out tB); (case side2 => exact HC0_0.out); rintro e w61 ⟨rfl, hb⟩; refine ⟨_, rfl, ?_⟩; replace HO_10 := Aside0.mk (Kd.R_below (by (with_reducible repeat (first | apply Kd.R_alloc | apply Kd.R_drewN | apply Kd.R_drew)); exact (Kd.R_mono (Kd.R_far (p := ⟨gb169, 0, none⟩) (Kd.R_types HO_10.out BK169.out (by decide)) (fun _ hk => hk.2) (.slice Ao54 x10_6.length co54)) (fun _ h_ => h_.1))) hb); replace BK140 := Aside0.mk (blk_below (g := gb140) (o := .cells #[.slice A0_0 l0_0.length c0_0] 65 (0, 0)) (kF NB140_169 BK140) hb); replace BK141 := Aside0.mk (blk_below (g := gb141) (o := .cells #[.slice none 0 0] 65 (0, 0)) (kF NB141_169 BK141) hb); replace BK169 := Aside0.mk (blk_below (g := gb169) (o := .cells #[.slice Ao54 x10_6.length co54] 65 (0, 0)) (by (with_reducible repeat (first | refine blk_drewN ?_ _ | refine blk_drew ?_ | refine blk_alloc ?_ _)); refine blk_put (cs := #[.slice none 0 0]) ?_ 0 _ rfl; (with_reducible repeat (first | refine blk_drewN ?_ _ | refine blk_drew ?_ | refine blk_alloc ?_ _)); exact BK169.out) hb); replace HB := bH HB hb; (try clear hb); (try clear hb2); (try clear hk); (try clear hi); obtain ⟨hcz62_0, hfz62_0⟩ := bc1 BK169.out) | (go_at_call 102; (with_reducible refine (spec_IsValidMailbox.calls kj6 _ _ x10_6 false _ ?side1 ?side2 A39.out).mono ?_); (case side1 => repeat (first | exact (Kd.R_reads' HO_10.out).2.2 | (with_reducible refine Kd.C_alloc ?_ _) | (with_reducible refine Kd.C_drewN ?_ _) | (with_reducible refine Kd.C_drew ?_))); (case side2 => exact (Kd.R_reads' HO_10.out).2.1); rintro e w63 ⟨rfl, hb⟩; replace HO_10 := Aside0.mk (Kd.R_below (tR HO_10) hb); replace BK140 := bB BK140 hb; replace BK141 := bB BK141 hb; replace BK169 := bB BK169 hb; replace HB := bH HB hb; (try clear hb); (try clear hb2); (try clear hk); (try clear hi); obtain ⟨hcz64_0, hfz64_0⟩ := bc1 BK140.out) | ((with_reducible refine gate_callee (f := 93) rfl ?_); refine goesL_ (some 62) rfl rfl Try.func93 (by kernel_rfl) rfl #[.agg #[.slice A0_0 l0_0.length c0_0]] rfl tL ?_; (with_reducible refine (spec_l31Copy.calls _ _ l0_0 t172 _ ?side1 ?side2 A53.out).mono ?_); (case side1 => repeat (first | exact (Kd.C_below HR0_0.out HB.out) | (with_reducible refine Kd.C_alloc ?_ _) | (with_reducible refine Kd.C_drewN ?_ _) | (with_reducible refine Kd.C_drew ?_))); (case side2 => exact HC0_0.out); rintro e w65 ⟨v173, rfl, ho0, hb⟩; refine ⟨_, rfl, ?_⟩; have HO174 := Aside0.mk (Kd.R_lower (Kd.R_new' ho0 (Kd.R_lt (tR HO_10))) (below_size tB)); replace HO_10 := Aside0.mk (Kd.R_elder' (tR HO_10) (Kd.R_base ho0) hb); replace BK140 := bB BK140 hb; replace BK141 := bB BK141 hb; replace BK169 := bB BK169 hb; replace HB := bH HB hb; (try clear hb); (try clear hb2); (try clear hk); (try clear hi); (try clear ho0); obtain ⟨Ao66, co66, eo66⟩ := Kd.R_slice HO174.out; subst eo66; obtain ⟨hcz67_0, hfz67_0⟩ := bc1 BK141.out))
      refine bodyPost_ret (results_ct rfl _ _ gb141 65 #[.slice Ao66 t172.length co66] (0, 0) _ rfl (by (with_reducible repeat (first | refine blk_drewN ?_ _ | refine blk_drew ?_ | refine blk_alloc ?_ _)); refine blk_put (cs := #[.slice none 0 0]) ?_ 0 _ rfl; (with_reducible repeat (first | refine blk_drewN ?_ _ | refine blk_drew ?_ | refine blk_alloc ?_ _)); exact BK141.out) Try.underlying65 rfl (by kernel_rfl)) rfl ?_
      exact ⟨_, tE, by (with_reducible repeat (first | apply Kd.R_alloc | apply Kd.R_drewN | apply Kd.R_drew)); exact Kd.R_mono (Kd.R_far (p := ⟨gb141, 0, none⟩) (Kd.R_types HO174.out BK141.out (by decide)) (fun _ hk => hk.2) (.slice Ao66 t172.length co66)) (fun _ hk => trivial), tB⟩
     replace c38 := Bool.eq_false_iff.mpr c38
     subst c38
     have H1 : ((spec_l31Copy.f l0_0).bind fun t175 => (some (t175, false))) = some (r1, r2) := by rw [if_neg (show ¬ (false = true) by decide)] at H; exact H
     clear H
     have H := H1
     clear H1
     replace H := Option.bind_eq_some_iff.mp H
     obtain ⟨t175, A680, H⟩ := H
     try dsimp only at H
     have A68 := Aside0.mk A680
     clear A680
     simp only [Option.some.injEq, Prod.mk.injEq] at H
     obtain ⟨rfl, rfl⟩ := H
     obtain ⟨Ao69, co69, eo69⟩ := Kd.R_slice HO_10.out
     subst eo69
     go_wp2_with (first | ((with_reducible refine gate_dst (N := 13) rfl ?_); refine box_event ?hg (N := 13) ?hd (cs := #[.slice none 0 0]) (t := 65) ?hr ?_; (case hd => rfl); (case hg => rfl); (case hr => exact tG); intro gb169 hg w70 hbox hb; replace HO_10 := Aside0.mk (Kd.R_below (tR HO_10) hb); have BK169 := Aside0.mk (hbox); have GW169 := gW HB hg; have GE169 := gW HB hg; replace HB := bH HB hb; have NB140_169 := nL BK140 hg; have NB169_140 := nR BK140 hg; replace BK140 := bB BK140 hb; have NB141_169 := nL BK141 hg; have NB169_141 := nR BK141 hg; replace BK141 := bB BK141 hb; clear hb hbox hg; have hnb71 := NB169_140.out; have hnc71 := NB140_169.out; have hnb72 := NB169_141.out; have hnc72 := NB141_169.out; obtain ⟨hcz73_0, hfz73_0⟩ := bc1 BK169.out; have hnb74 := NB140_141.out; have hnc74 := NB141_140.out; obtain ⟨hcz75_0, hfz75_0⟩ := bc1 BK140.out) | ((with_reducible refine gate_callee (f := 102) rfl ?_); refine goesL_ (some 54) rfl rfl Try.func102 (by kernel_rfl) rfl #[.agg #[.slice A0_0 l0_0.length c0_0]] rfl tL ?_; (with_reducible refine (spec_IsValidMailbox.calls kj6 _ _ l0_0 false _ ?side1 ?side2 A37.out).mono ?_); (case side1 => exact Kd.C_below HR0_0.out tB); (case side2 => exact HC0_0.out); rintro e w76 ⟨rfl, hb⟩; refine ⟨_, rfl, ?_⟩; replace HO_10 := Aside0.mk (Kd.R_below (by (with_reducible repeat (first | apply Kd.R_alloc | apply Kd.R_drewN | apply Kd.R_drew)); exact (Kd.R_mono (Kd.R_far (p := ⟨gb169, 0, none⟩) (Kd.R_types HO_10.out BK169.out (by decide)) (fun _ hk => hk.2) (.slice Ao69 x10_6.length co69)) (fun _ h_ => h_.1))) hb); replace BK140 := Aside0.mk (blk_below (g := gb140) (o := .cells #[.slice A0_0 l0_0.length c0_0] 65 (0, 0)) (kF NB140_169 BK140) hb); replace BK141 := Aside0.mk (blk_below (g := gb141) (o := .cells #[.slice none 0 0] 65 (0, 0)) (kF NB141_169 BK141) hb); replace BK169 := Aside0.mk (blk_below (g := gb169) (o := .cells #[.slice Ao69 x10_6.length co69] 65 (0, 0)) (by (with_reducible repeat (first | refine blk_drewN ?_ _ | refine blk_drew ?_ | refine blk_alloc ?_ _)); refine blk_put (cs := #[.slice none 0 0]) ?_ 0 _ rfl; (with_reducible repeat (first | refine blk_drewN ?_ _ | refine blk_drew ?_ | refine blk_alloc ?_ _)); exact BK169.out) hb); replace HB := bH HB hb; (try clear hb); (try clear hb2); (try clear hk); (try clear hi); obtain ⟨hcz77_0, hfz77_0⟩ := bc1 BK140.out) | ((with_reducible refine gate_callee (f := 93) rfl ?_); refine goesL_ (some 62) rfl rfl Try.func93 (by kernel_rfl) rfl #[.agg #[.slice A0_0 l0_0.length c0_0]] rfl tL ?_; (with_reducible refine (spec_l31Copy.calls _ _ l0_0 t175 _ ?side1 ?side2 A68.out).mono ?_); (case side1 => repeat (first | exact (Kd.C_below HR0_0.out HB.out) | (with_reducible refine Kd.C_alloc ?_ _) | (with_reducible refine Kd.C_drewN ?_ _) | (with_reducible refine Kd.C_drew ?_))); (case side2 => exact HC0_0.out); rintro e w78 ⟨v176, rfl, ho0, hb⟩; refine ⟨_, rfl, ?_⟩; have HO177 := Aside0.mk (Kd.R_lower (Kd.R_new' ho0 (Kd.R_lt (tR HO_10))) (below_size tB)); replace HO_10 := Aside0.mk (Kd.R_elder' (tR HO_10) (Kd.R_base ho0) hb); replace BK140 := bB BK140 hb; replace BK141 := bB BK141 hb; replace BK169 := bB BK169 hb; replace HB := bH HB hb; (try clear hb); (try clear hb2); (try clear hk); (try clear hi); (try clear ho0); obtain ⟨Ao79, co79, eo79⟩ := Kd.R_slice HO177.out; subst eo79; obtain ⟨hcz80_0, hfz80_0⟩ := bc1 BK141.out))
     refine bodyPost_ret (results_ct rfl _ _ gb141 65 #[.slice Ao79 t175.length co79] (0, 0) _ rfl (by (with_reducible repeat (first | refine blk_drewN ?_ _ | refine blk_drew ?_ | refine blk_alloc ?_ _)); refine blk_put (cs := #[.slice none 0 0]) ?_ 0 _ rfl; (with_reducible repeat (first | refine blk_drewN ?_ _ | refine blk_drew ?_ | refine blk_alloc ?_ _)); exact BK141.out) Try.underlying65 rfl (by kernel_rfl)) rfl ?_
     exact ⟨_, tE, by (with_reducible repeat (first | apply Kd.R_alloc | apply Kd.R_drewN | apply Kd.R_drew)); exact Kd.R_mono (Kd.R_far (p := ⟨gb141, 0, none⟩) (Kd.R_types HO177.out BK141.out (by decide)) (fun _ hk => hk.2) (.slice Ao79 t175.length co79)) (fun _ hk => trivial), tB⟩
  rw [if_neg c6] at H
  exact absurd H (by simp)
 rw [if_neg c5] at H
 exact absurd H (by simp)

/-! ### impl_InRange: function 81 -/
def impl_InRange.f (a0 : Int) (a1 : Int) (a2 : Int) : Option (Bool) := if a1 ≤ a0 then (some (decide (a0 ≤ a2))) else (some false)
set_option maxHeartbeats 8000000 in
set_option maxRecDepth 100000 in
theorem impl_InRange.calls (a0 : Int) (a1 : Int) (a2 : Int) (r : Bool) (w : World) (h : impl_InRange.f a0 a1 a2 = some r) :
  Calls Try.prog 81 #[.int .i64 a0, .int .i64 a1, .int .i64 a2] w fun e w' => e = .returned (.bool r) ∧ Drawn0 w w' := by
 have H : (if a1 ≤ a0 then (some (decide (a0 ≤ a2))) else (some false)) = some r := h
 clear h
 by_cases c4 : a1 ≤ a0
 ·rw [if_pos c4] at H
  have c4b0 : decide (a1 ≤ a0) = true := decide_eq_true c4
  clear c4
  obtain rfl := Option.some.inj H
  go_enter Try.func81, Try.ntmps81
  go_wp2
  go_ret
  exact ⟨tS, by repeat (first | exact Drawn0.refl _ | apply Drawn0.step)⟩
 rw [if_neg c4] at H
 have c4b0 : decide (a1 ≤ a0) = false := decide_eq_false c4
 clear c4
 obtain rfl := Option.some.inj H
 go_enter Try.func81, Try.ntmps81
 go_wp2
 go_ret
 exact ⟨tS, by repeat (first | exact Drawn0.refl _ | apply Drawn0.step)⟩

end Go.Proofs.Ytanoaneoanpkkaa.ZFnNotices
