/- The machine side: for each Go function a Lean function and the contract that the Go code answers as it does; printed by program (wip/tmpl/pprint.sh). -/
import Derived.Test.YtanoaneoanpkkaaZFnNoticesx0
import Derived.Test.YtanoaneoanpkkaaZFnNoticesx2
import Derived.Test.YtanoaneoanpkkaaZFnNoticesx4
namespace Go.Proofs.Ytanoaneoanpkkaa.ZFnNotices
open Go.RowKit Go.Proofs.YtanoaneoanpkkaaW.PrintWords Go.Proofs.YtanoaneoanpkkaaW.PrintLast Go.Proofs.YtanoaneoanpkkaaW.PrintMore
attribute [local go_sem] max2_int min2_int max_two min_two max_three min_three max_four min_four   -- for this text's walks alone
set_option linter.unusedVariables false
set_option linter.unusedSimpArgs false

/-! ### impl_SendNotice: function 58 -/
mutual
def impl_SendNotice.j1 : Nat → List (S108) → List (S108) → Option ((List (S108)) × Bool)
 | 0, _, _ => none
 | k + 1, x186000, x195000 => (impl_IsValidMailbox.f k x195000).bind fun t234 => (if t234 = true then (some (x195000, true)) else ((impl_copyMail.f x186000).bind fun t235 => (some (t235, false))))
def impl_SendNotice.l0 : Nat → Int → Int → Int → List (S108) → List (S108) → Option ((List (S108)) × Bool)
 | 0, _, _, _, _, _ => none
 | k + 1, x11, x36, x37, x186000, x195000 => if x37 < x36 then (if 0 ≤ x37 then (if x37 < (x195000.length : Int) then (if (rd_T108 x195000 x37).f3 = true then ((some (([] : List (S108)) : List (S108))).bind fun y200 => (if x37 ≤ (x195000.length : Int) then ((some (x195000.take (x37 : Int).toNat : List (S108))).bind fun y203 => (if y200.length + y203.length < 4398046511104 then ((some (y200 ++ y203 : List (S108))).bind fun y207 => (if 0 ≤ (wrap64 (x37 + 1)) then (if (wrap64 (x37 + 1)) ≤ (x195000.length : Int) then ((some (x195000.drop ((wrap64 (x37 + 1)) : Int).toNat : List (S108))).bind fun y210 => (if y207.length + y210.length < 4398046511104 then (impl_SendNotice.j1 k x186000 (y207 ++ y210)) else (none))) else (none)) else (none))) else (none))) else (none))) else (impl_SendNotice.l0 k x11 x36 (wrap64 (x37 + 1)) x186000 x195000)) else (none)) else (none)) else ((some (([] : List (S108)) : List (S108))).bind fun y217 => (if 0 ≤ x11 then (if x11 ≤ (x195000.length : Int) then ((some (x195000.take (x11 : Int).toNat : List (S108))).bind fun y220 => (if y217.length + y220.length < 4398046511104 then ((some (y217 ++ y220 : List (S108))).bind fun y224 => (if 0 ≤ (wrap64 (x11 + 1)) then (if (wrap64 (x11 + 1)) ≤ (x195000.length : Int) then ((some (x195000.drop ((wrap64 (x11 + 1)) : Int).toNat : List (S108))).bind fun y227 => (if y224.length + y227.length < 4398046511104 then (impl_SendNotice.j1 k x186000 (y224 ++ y227)) else (none))) else (none)) else (none))) else (none))) else (none)) else (none)))
end
def impl_SendNotice.f (k : Nat) (l0_0 : List (S108)) (a1 : Int) (a2 : Int) (a3 : Int) : Option ((List (S108)) × Bool) := (impl_IsValidMailbox.f k l0_0).bind fun t187 => (if t187 = true then ((impl_copyMail.f l0_0).bind fun t191 => (if t191.length < 4398046511104 then ((some (t191 ++ [(⟨a1, a2, a3, false⟩ : S108)] : List (S108))).bind fun y195 => (if (y195.length : Int) > 30 then (impl_SendNotice.l0 k 0 (y195.length : Int) 0 l0_0 y195) else (impl_SendNotice.j1 k l0_0 y195))) else (none))) else ((impl_copyMail.f l0_0).bind fun t188 => (some (t188, false))))
theorem impl_SendNotice.mono_l : ∀ k, (∀ y0 y1, LeO (impl_SendNotice.j1 k y0 y1) (impl_SendNotice.j1 (k + 1) y0 y1)) ∧ (∀ y0 y1 y2 y3 y4, LeO (impl_SendNotice.l0 k y0 y1 y2 y3 y4) (impl_SendNotice.l0 (k + 1) y0 y1 y2 y3 y4))
 | 0 => ⟨fun _ _ r h => by simp [impl_SendNotice.j1] at h, fun _ _ _ _ _ r h => by simp [impl_SendNotice.l0] at h⟩
 | k + 1 => by
  obtain ⟨ih0, ih1⟩ := impl_SendNotice.mono_l k
  refine ⟨?_, ?_⟩
  ·intro y0 y1
   unfold impl_SendNotice.j1
   repeat' first
   | (with_reducible exact ih0 _ _)
   | (with_reducible exact ih1 _ _ _ _ _)
   | (with_reducible exact impl_IsValidMailbox.mono _ _)
   | (with_reducible exact LeO.refl _)
   | (with_reducible exact LeO.none _)
   | (with_reducible refine LeO.ite ?_ ?_)
   | (with_reducible refine LeO.bind ?_ (fun _ => ?_))
   | exact ih0 _ _
   | exact ih1 _ _ _ _ _
   | exact impl_IsValidMailbox.mono _ _
   | exact LeO.none _
   | refine LeO.ite ?_ ?_
   | refine LeO.bind ?_ (fun _ => ?_)
  ·intro y0 y1 y2 y3 y4
   unfold impl_SendNotice.l0
   repeat' first
   | (with_reducible exact ih0 _ _)
   | (with_reducible exact ih1 _ _ _ _ _)
   | (with_reducible exact impl_IsValidMailbox.mono _ _)
   | (with_reducible exact LeO.refl _)
   | (with_reducible exact LeO.none _)
   | (with_reducible refine LeO.ite ?_ ?_)
   | (with_reducible refine LeO.bind ?_ (fun _ => ?_))
   | exact ih0 _ _
   | exact ih1 _ _ _ _ _
   | exact impl_IsValidMailbox.mono _ _
   | exact LeO.none _
   | refine LeO.ite ?_ ?_
   | refine LeO.bind ?_ (fun _ => ?_)
theorem impl_SendNotice.mono : ∀ a0 a1 a2 a3 k, LeO (impl_SendNotice.f k a0 a1 a2 a3) (impl_SendNotice.f (k + 1) a0 a1 a2 a3) := by
 intro a0 a1 a2 a3 k
 obtain ⟨ih0, ih1⟩ := impl_SendNotice.mono_l k
 unfold impl_SendNotice.f
 repeat' first
   | (with_reducible exact ih0 _ _)
   | (with_reducible exact ih1 _ _ _ _ _)
   | (with_reducible exact impl_IsValidMailbox.mono _ _)
   | (with_reducible exact LeO.refl _)
   | (with_reducible exact LeO.none _)
   | (with_reducible refine LeO.ite ?_ ?_)
   | (with_reducible refine LeO.bind ?_ (fun _ => ?_))
   | exact ih0 _ _
   | exact ih1 _ _ _ _ _
   | exact impl_IsValidMailbox.mono _ _
   | exact LeO.none _
   | refine LeO.ite ?_ ?_
   | refine LeO.bind ?_ (fun _ => ?_)
def impl_SendNotice.T13 : Bool × List (List Nat × List Nat) := (true, [([], []), ([], []), ([1], [1]), ([], []), ([2, 3], [2, 3]), ([0, 4], [0, 4]), ([], []), ([6], [6]), ([], []), ([8], [8]), ([7, 9], [7, 9]), ([5, 10, 5], [5, 10]), ([0, 1, 2, 3, 4, 5, 6, 7, 8, 9, 10, 11], []), ([12, 11, 11, 0, 1, 2, 3, 4, 5, 6, 7, 8, 9, 10, 11], [11, 12])])
def impl_SendNotice.B13 : List Nat := [0, 0, 2, 0, 14, 31, 0, 64, 0, 256, 960, 2047, 4095, 8191]
theorem impl_SendNotice.tab13 : rtab .any (opsOf Try.f58 13) = impl_SendNotice.T13 := by kernel_rfl
theorem impl_SendNotice.bits13 : waitsOk impl_SendNotice.T13.2 impl_SendNotice.B13 = true := by kernel_rfl
set_option maxHeartbeats 8000000 in
set_option maxRecDepth 100000 in
theorem impl_SendNotice.calls (k : Nat) (A0_0 : Option Addr) (c0_0 : Nat) (l0_0 : List (S108)) (a1 : Int) (a2 : Int) (a3 : Int) (r1 : List (S108)) (r2 : Bool) (w : World) (hr0_0 : Kd.C k108 w A0_0 l0_0.length l0_0) (hc0_0 : l0_0.length ≤ c0_0) (h : impl_SendNotice.f k l0_0 a1 a2 a3 = some (r1, r2)) :
  Calls Try.prog 58 #[.agg #[.slice A0_0 l0_0.length c0_0], .int .i64 a1, .int .i64 a2, .int .i64 a3] w fun e w' => ∃ v0_ : Value, e = .returned (.tuple #[.agg #[v0_], .bool r2]) ∧ Kd.R k108 108 w' w.heap.size (fun _ => True) v0_ r1 ∧ Below w.heap.size w w' := by
 have hu65 := Try.underlying65
 have hu108 := Try.underlying108
 have HR0_0 := Aside0.mk hr0_0
 have HC0_0 := Aside0.mk hc0_0
 clear hr0_0 hc0_0
 have HB := Aside0.mk (Below.refl w.heap.size w)
 have H : ((impl_IsValidMailbox.f k l0_0).bind fun t187 => (if t187 = true then ((impl_copyMail.f l0_0).bind fun t191 => (if t191.length < 4398046511104 then ((some (t191 ++ [(⟨a1, a2, a3, false⟩ : S108)] : List (S108))).bind fun y195 => (if (y195.length : Int) > 30 then (impl_SendNotice.l0 k 0 (y195.length : Int) 0 l0_0 y195) else (impl_SendNotice.j1 k l0_0 y195))) else (none))) else ((impl_copyMail.f l0_0).bind fun t188 => (some (t188, false))))) = some (r1, r2) := h
 clear h
 replace H := Option.bind_eq_some_iff.mp H
 obtain ⟨t187, A50, H⟩ := H
 try dsimp only at H
 have A5 := Aside0.mk A50
 clear A50
 by_cases c6 : t187 = true
 ·subst c6
  have H1 : ((impl_copyMail.f l0_0).bind fun t191 => (if t191.length < 4398046511104 then ((some (t191 ++ [(⟨a1, a2, a3, false⟩ : S108)] : List (S108))).bind fun y195 => (if (y195.length : Int) > 30 then (impl_SendNotice.l0 k 0 (y195.length : Int) 0 l0_0 y195) else (impl_SendNotice.j1 k l0_0 y195))) else (none))) = some (r1, r2) := by rw [if_pos rfl] at H; exact H
  clear H
  have H := H1
  clear H1
  replace H := Option.bind_eq_some_iff.mp H
  obtain ⟨t191, A70, H⟩ := H
  try dsimp only at H
  have A7 := Aside0.mk A70
  clear A70
  by_cases c8 : t191.length < 4398046511104
  ·rw [if_pos c8] at H
   have LMc8 := Aside0.mk c8
   clear c8
   obtain ⟨y195, hy195⟩ : ∃ y_ : List (S108), y_ = (t191 ++ [(⟨a1, a2, a3, false⟩ : S108)]) := ⟨_, rfl⟩
   replace H : (if (y195.length : Int) > 30 then (impl_SendNotice.l0 k 0 (y195.length : Int) 0 l0_0 y195) else (impl_SendNotice.j1 k l0_0 y195)) = some (r1, r2) := by first | (rw [hy195]; with_reducible exact H) | (have H2_ := (Option.bind_some _ _).symm.trans H; rw [hy195]; with_reducible exact H2_) | (have H2_ := (Option.bind_some _ _).symm.trans H; with_reducible exact H2_) | with_reducible exact H | (rw [hy195]; exact H) | exact H
   have Ny195 := Aside0.mk hy195
   clear hy195
   have HC9 := Aside0.mk H
   clear H
   go_enter Try.func58, Try.ntmps58
   go_upto_if 33 with (first | ((with_reducible refine gate_dst (N := 4) rfl ?_); refine box_event ?hg (N := 4) ?hd (cs := #[.slice A0_0 l0_0.length c0_0]) (t := 65) ?hr ?_; (case hd => rfl); (case hg => rfl); (case hr => exact tG); intro gb185 hg w10 hbox hb; have BK185 := Aside0.mk (hbox); have GW185 := gW HB hg; have GE185 := gW HB hg; replace HB := bH HB hb; clear hb hbox hg) | ((with_reducible refine gate_dst (N := 8) rfl ?_); refine box_event ?hg (N := 8) ?hd (cs := #[.slice none 0 0]) (t := 65) ?hr ?_; (case hd => rfl); (case hg => rfl); (case hr => exact tG); intro gb186 hg w11 hbox hb; have BK186 := Aside0.mk (hbox); have GW186 := gW HB hg; have GE186 := gW HB hg; replace HB := bH HB hb; have NB185_186 := nL BK185 hg; have NB186_185 := nR BK185 hg; replace BK185 := bB BK185 hb; clear hb hbox hg; have hnb12 := NB185_186.out; have hnc12 := NB186_185.out; obtain ⟨hcz13_0, hfz13_0⟩ := bc1 BK185.out) | ((with_reducible refine gate_callee (f := 71) rfl ?_); refine goesL_ (some 15) rfl rfl Try.func71 (by kernel_rfl) rfl #[.agg #[.slice A0_0 l0_0.length c0_0]] rfl tL ?_; (with_reducible refine (impl_IsValidMailbox.calls k _ _ l0_0 true _ ?side1 ?side2 A5.out).mono ?_); (case side1 => repeat (first | exact (Kd.C_below HR0_0.out HB.out) | (with_reducible refine Kd.C_alloc ?_ _) | (with_reducible refine Kd.C_drewN ?_ _) | (with_reducible refine Kd.C_drew ?_))); (case side2 => exact HC0_0.out); rintro e w14 ⟨rfl, hb⟩; refine ⟨_, rfl, ?_⟩; replace BK185 := bB BK185 hb; replace BK186 := bB BK186 hb; replace HB := bH HB hb; (try clear hb); (try clear hb2); (try clear hk); (try clear hi); obtain ⟨hcz15_0, hfz15_0⟩ := bc1 BK185.out) | ((with_reducible refine gate_callee (f := 95) rfl ?_); refine goesL_ (some 20) rfl rfl Try.func95 (by kernel_rfl) rfl #[.agg #[.slice A0_0 l0_0.length c0_0]] rfl tL ?_; (with_reducible refine (impl_copyMail.calls _ _ l0_0 t191 _ ?side1 ?side2 A7.out).mono ?_); (case side1 => repeat (first | exact (Kd.C_below HR0_0.out HB.out) | (with_reducible refine Kd.C_alloc ?_ _) | (with_reducible refine Kd.C_drewN ?_ _) | (with_reducible refine Kd.C_drew ?_))); (case side2 => exact HC0_0.out); rintro e w16 ⟨v192, rfl, ho0, hb⟩; refine ⟨_, rfl, ?_⟩; have HO193 := Aside0.mk (Kd.R_lower ho0 (below_size tB)); replace BK185 := bB BK185 hb; replace BK186 := bB BK186 hb; replace HB := bH HB hb; (try clear hb); (try clear hb2); (try clear hk); (try clear hi); (try clear ho0)) | ((with_reducible refine gate_dst (N := 10) rfl ?_); refine box_event ?hg (N := 10) ?hd (cs := #[.slice none 0 0]) (t := 65) ?hr ?_; (case hd => rfl); (case hg => rfl); (case hr => exact tG); intro gb194 hg w17 hbox hb; replace HO193 := Aside0.mk (Kd.R_below (tR HO193) hb); have BK194 := Aside0.mk (hbox); have GW194 := gW HB hg; have GE194 := gW HB hg; replace HB := bH HB hb; have NB185_194 := nL BK185 hg; have NB194_185 := nR BK185 hg; replace BK185 := bB BK185 hb; have NB186_194 := nL BK186 hg; have NB194_186 := nR BK186 hg; replace BK186 := bB BK186 hb; clear hb hbox hg; obtain ⟨Ao18, co18, eo18⟩ := Kd.R_slice HO193.out; subst eo18; have hnb19 := NB194_185.out; have hnc19 := NB185_194.out; have hnb20 := NB194_186.out; have hnc20 := NB186_194.out; obtain ⟨hcz21_0, hfz21_0⟩ := bc1 BK194.out) | ((with_reducible refine gate_builtin (b := .append) (xs := #[.tmp 22, .tmp 27]) rfl ?_); at_builtin; refine Kd.R_append k108 (w0 := w) w.heap.size rfl (.tmp 22) (.tmp 27) 63 108 (.agg #[(.int .i64 0), (.int .i64 0), (.int .i64 0), (.bool false)]) 32 rfl Try.underlying63 info108 rfl (by decide) (by omega) (.slice Ao18 t191.length co18) t191 (⟨a1, a2, a3, false⟩ : S108) [.int .i64 a1, .int .i64 a2, .int .i64 a3, .bool false] (fun _ => True) (fun _ => False) rfl (by first | (go_simp; done) | (go_simp; rfl)) ?aP (fun _ hk => hk.elim) ?aF ?aO ?aB ?aS ?aL ?_; (case aP => exact k108_mkM _ _ _ (⟨a1, a2, a3, false⟩ : S108)); (case aB => exact tB); (case aF => exact (fun _ _ => trivial)); (case aO => exact (by (with_reducible repeat (first | apply Kd.R_alloc | apply Kd.R_drewN | apply Kd.R_drew)); exact Kd.R_mono (Kd.R_far (p := ⟨gb194, 0, none⟩) (Kd.R_types HO193.out BK194.out (by decide)) (fun _ hk => hk.2) (.slice Ao18 t191.length co18)) (fun _ hk => trivial))); (case aS => exact (below_size tB)); (case aL => have := LMc8.out; omega); intro v196 w22 ho hb hg hat; rw [← Ny195.out] at ho; replace BK185 := Aside0.mk (blk_grown (g := gb185) (o := .cells #[.slice A0_0 l0_0.length c0_0] 65 (0, 0)) (kF NB185_194 BK185) hg (Kd.R_ne HO193.out BK185.out (by decide))); replace BK186 := Aside0.mk (blk_grown (g := gb186) (o := .cells #[.slice none 0 0] 65 (0, 0)) (kF NB186_194 BK186) hg (Kd.R_ne HO193.out BK186.out (by decide))); replace BK194 := Aside0.mk (blk_grown (g := gb194) (o := .cells #[.slice Ao18 t191.length co18] 65 (0, 0)) (by (with_reducible repeat (first | refine blk_drewN ?_ _ | refine blk_drew ?_ | refine blk_alloc ?_ _)); refine blk_put (cs := #[.slice none 0 0]) ?_ 0 _ rfl; (with_reducible repeat (first | refine blk_drewN ?_ _ | refine blk_drew ?_ | refine blk_alloc ?_ _)); exact BK194.out) hg (Kd.R_ne HO193.out BK194.out (by decide))); replace HB := Aside0.mk (hb); have HO197 := Aside0.mk (ho); clear HO193; clear ho hb hg hat; obtain ⟨Ao23, co23, eo23⟩ := Kd.R_slice HO197.out; subst eo23; obtain ⟨hcz24_0, hfz24_0⟩ := bc1 BK194.out))
   (try simp only [Act.put, List.setIfInBounds_toArray, List.set_cons_zero, List.set_cons_succ])
   go_cut [] (fun wc => ∃ (kq : Nat) (x195000_8 : List (S108)) (u195000 : Value), Aside0 (impl_SendNotice.j1 kq l0_0 x195000_8 = some (r1, r2)) ∧ Aside0 (kq ≤ k) ∧ Aside0 (Kd.R k108 108 wc w.heap.size (fun _ => True) u195000 x195000_8) ∧ Aside0 (wc.heap[gb185]? = some (.cells #[(.slice A0_0 l0_0.length c0_0)] 65 (0, 0))) ∧ Aside0 (wc.heap[gb186]? = some (.cells #[(.slice none 0 0)] 65 (0, 0))) ∧ Aside0 (wc.heap[gb194]? = some (.cells #[u195000] 65 (0, 0))) ∧ Aside0 (Below w.heap.size w wc))
   case first =>
    have H := HC9.out
    clear HC9
    by_cases c25 : (y195.length : Int) > 30
    ·rw [if_pos c25] at H
     have c25b0 : decide (30 < (y195.length : Int)) = true := decide_eq_true c25
     have c25b1 : decide (30 < y195.length) = true := decide_eq_true (by omega)
     clear c25
     (first | rw [c25b0] | (simp only [i64_w, i32_w]; rw [c25b0]) | skip)
     have H' := Aside0.mk H
     clear H
     have hnb26 := NB194_185.out
     have hnc26 := NB185_194.out
     have hnb27 := NB194_186.out
     have hnc27 := NB186_194.out
     obtain ⟨hcz28_0, hfz28_0⟩ := bc1 BK194.out
     go_wp2
     go_loopg [11, 37] k (fun kq v11 v37 w' => ∃ (x11_1 : Int) (x37_1 : Int), v11 = .int .i64 x11_1 ∧ v37 = .int .i64 x37_1 ∧ Aside0 (impl_SendNotice.l0 kq x11_1 (y195.length : Int) x37_1 l0_0 y195 = some (r1, r2)) ∧ Aside0 (kq ≤ k) ∧ Aside0 (Kd.R k108 108 w' w.heap.size (fun _ => True) (.slice Ao23 y195.length co23) y195) ∧ Aside0 (w'.heap[gb185]? = some (.cells #[(.slice A0_0 l0_0.length c0_0)] 65 (0, 0))) ∧ Aside0 (w'.heap[gb186]? = some (.cells #[(.slice none 0 0)] 65 (0, 0))) ∧ Aside0 (w'.heap[gb194]? = some (.cells #[(.slice Ao23 y195.length co23)] 65 (0, 0))) ∧ Aside0 (Below w.heap.size w w'))
     case atStart => exact ⟨(0), (0), tS, tS, H', ⟨Nat.le_refl _⟩, ⟨by (with_reducible repeat (first | apply Kd.R_alloc | apply Kd.R_drewN | apply Kd.R_drew)); exact Kd.R_mono (Kd.R_far (p := ⟨gb194, 0, none⟩) (Kd.R_types HO197.out BK194.out (by decide)) (fun _ hk => hk.2) (.slice Ao23 y195.length co23)) (fun _ hk => trivial)⟩, ⟨kF NB185_194 BK185⟩, ⟨kF NB186_194 BK186⟩, ⟨by (with_reducible repeat (first | refine blk_drewN ?_ _ | refine blk_drew ?_ | refine blk_alloc ?_ _)); refine blk_put (cs := #[.slice Ao18 t191.length co18]) ?_ 0 _ rfl; (with_reducible repeat (first | refine blk_drewN ?_ _ | refine blk_drew ?_ | refine blk_alloc ?_ _)); exact BK194.out⟩, ⟨tB⟩⟩
     case round =>
      clear H'
      try clear c1
      try clear c2
      try clear p2
      try clear c5
      try clear c6
      try clear c7
      try clear c8
      try clear c9
      try clear c12
      try clear c19
      try clear c20
      try clear c25
      try clear c25b0
      try clear c25b1
      try clear c26
      try clear c27
      try clear hcz13_0
      try clear hcz15_0
      try clear hcz21_0
      try clear hcz24_0
      try clear hcz28_0
      try clear hfz13_0
      try clear hfz15_0
      try clear hfz21_0
      try clear hfz24_0
      try clear hfz28_0
      obtain ⟨x11_1, x37_1, rfl, rfl, HA, HK1, HO_195000, BK185, BK186, BK194, HB⟩ := hrel
      cases gk with
      | zero => exact absurd HA.out (by simp [impl_SendNotice.l0])
      | succ k1 =>
       have H := HA.out
       clear HA
       simp only [impl_SendNotice.l0] at H
       by_cases c29 : x37_1 < (y195.length : Int)
       ·rw [if_pos c29] at H
        have c29b0 : decide (x37_1 < (y195.length : Int)) = true := decide_eq_true c29
        clear c29
        by_cases c30 : 0 ≤ x37_1
        ·rw [if_pos c30] at H
         have c30b0 : decide (0 ≤ x37_1) = true := decide_eq_true c30
         clear c30
         by_cases c31 : x37_1 < (y195.length : Int)
         ·rw [if_pos c31] at H
          have c31b0 : decide (x37_1 < (y195.length : Int)) = true := decide_eq_true c31
          clear c31
          obtain ⟨bq32, hbq32⟩ : ∃ b_ : Bool, b_ = ((rd_T108 y195 x37_1).f3) := ⟨_, rfl⟩
          replace H : (if bq32 = true then ((some (([] : List (S108)) : List (S108))).bind fun y200 => (if x37_1 ≤ (y195.length : Int) then ((some (y195.take (x37_1 : Int).toNat : List (S108))).bind fun y203 => (if y200.length + y203.length < 4398046511104 then ((some (y200 ++ y203 : List (S108))).bind fun y207 => (if 0 ≤ (wrap64 (x37_1 + 1)) then (if (wrap64 (x37_1 + 1)) ≤ (y195.length : Int) then ((some (y195.drop ((wrap64 (x37_1 + 1)) : Int).toNat : List (S108))).bind fun y210 => (if y207.length + y210.length < 4398046511104 then (impl_SendNotice.j1 k1 l0_0 (y207 ++ y210)) else (none))) else (none)) else (none))) else (none))) else (none))) else (impl_SendNotice.l0 k1 x11_1 (y195.length : Int) (wrap64 (x37_1 + 1)) l0_0 y195)) = some (r1, r2) := by rw [← hbq32] at H; exact H
          have Nbq32 := Aside0.mk hbq32
          clear hbq32
          by_cases c33 : bq32 = true
          ·subst c33
           have H1 : ((some (([] : List (S108)) : List (S108))).bind fun y200 => (if x37_1 ≤ (y195.length : Int) then ((some (y195.take (x37_1 : Int).toNat : List (S108))).bind fun y203 => (if y200.length + y203.length < 4398046511104 then ((some (y200 ++ y203 : List (S108))).bind fun y207 => (if 0 ≤ (wrap64 (x37_1 + 1)) then (if (wrap64 (x37_1 + 1)) ≤ (y195.length : Int) then ((some (y195.drop ((wrap64 (x37_1 + 1)) : Int).toNat : List (S108))).bind fun y210 => (if y207.length + y210.length < 4398046511104 then (impl_SendNotice.j1 k1 l0_0 (y207 ++ y210)) else (none))) else (none)) else (none))) else (none))) else (none))) = some (r1, r2) := by rw [if_pos rfl] at H; exact H
           clear H
           have H := H1
           clear H1
           obtain ⟨y200, hy200⟩ : ∃ y_ : List (S108), y_ = (([] : List (S108))) := ⟨_, rfl⟩
           replace H : (if x37_1 ≤ (y195.length : Int) then ((some (y195.take (x37_1 : Int).toNat : List (S108))).bind fun y203 => (if y200.length + y203.length < 4398046511104 then ((some (y200 ++ y203 : List (S108))).bind fun y207 => (if 0 ≤ (wrap64 (x37_1 + 1)) then (if (wrap64 (x37_1 + 1)) ≤ (y195.length : Int) then ((some (y195.drop ((wrap64 (x37_1 + 1)) : Int).toNat : List (S108))).bind fun y210 => (if y207.length + y210.length < 4398046511104 then (impl_SendNotice.j1 k1 l0_0 (y207 ++ y210)) else (none))) else (none)) else (none))) else (none))) else (none)) = some (r1, r2) := by first | (rw [hy200]; with_reducible exact H) | (have H2_ := (Option.bind_some _ _).symm.trans H; rw [hy200]; with_reducible exact H2_) | (have H2_ := (Option.bind_some _ _).symm.trans H; with_reducible exact H2_) | with_reducible exact H | (rw [hy200]; exact H) | exact H
           have Ny200 := Aside0.mk hy200
           clear hy200
           have c34b0 := eq_true (of_decide_eq_true tA : 0 ≤ x37_1)
           by_cases c35 : x37_1 ≤ (y195.length : Int)
           ·rw [if_pos c35] at H
            have c35b0 := eq_true c35
            have c35b1 : decide (x37_1 ≤ (y195.length : Int)) = true := decide_eq_true c35
            clear c35
            obtain ⟨y203, hy203⟩ : ∃ y_ : List (S108), y_ = (y195.take (x37_1 : Int).toNat) := ⟨_, rfl⟩
            replace H : (if y200.length + y203.length < 4398046511104 then ((some (y200 ++ y203 : List (S108))).bind fun y207 => (if 0 ≤ (wrap64 (x37_1 + 1)) then (if (wrap64 (x37_1 + 1)) ≤ (y195.length : Int) then ((some (y195.drop ((wrap64 (x37_1 + 1)) : Int).toNat : List (S108))).bind fun y210 => (if y207.length + y210.length < 4398046511104 then (impl_SendNotice.j1 k1 l0_0 (y207 ++ y210)) else (none))) else (none)) else (none))) else (none)) = some (r1, r2) := by first | (rw [hy203]; with_reducible exact H) | (have H2_ := (Option.bind_some _ _).symm.trans H; rw [hy203]; with_reducible exact H2_) | (have H2_ := (Option.bind_some _ _).symm.trans H; with_reducible exact H2_) | with_reducible exact H | (rw [hy203]; exact H) | exact H
            have Ny203 := Aside0.mk hy203
            clear hy203
            by_cases c36 : y200.length + y203.length < 4398046511104
            ·rw [if_pos c36] at H
             have LMc36 := Aside0.mk c36
             clear c36
             obtain ⟨y207, hy207⟩ : ∃ y_ : List (S108), y_ = (y200 ++ y203) := ⟨_, rfl⟩
             replace H : (if 0 ≤ (wrap64 (x37_1 + 1)) then (if (wrap64 (x37_1 + 1)) ≤ (y195.length : Int) then ((some (y195.drop ((wrap64 (x37_1 + 1)) : Int).toNat : List (S108))).bind fun y210 => (if y207.length + y210.length < 4398046511104 then (impl_SendNotice.j1 k1 l0_0 (y207 ++ y210)) else (none))) else (none)) else (none)) = some (r1, r2) := by first | (rw [hy207]; with_reducible exact H) | (have H2_ := (Option.bind_some _ _).symm.trans H; rw [hy207]; with_reducible exact H2_) | (have H2_ := (Option.bind_some _ _).symm.trans H; with_reducible exact H2_) | with_reducible exact H | (rw [hy207]; exact H) | exact H
             have Ny207 := Aside0.mk hy207
             clear hy207
             obtain ⟨ji37, hji37⟩ : ∃ j_ : Int, (wrap64 (x37_1 + 1)) = j_ := ⟨_, rfl⟩
             replace H : (if 0 ≤ (ji37) then (if (ji37) ≤ (y195.length : Int) then ((some (y195.drop ((ji37) : Int).toNat : List (S108))).bind fun y210 => (if y207.length + y210.length < 4398046511104 then (impl_SendNotice.j1 k1 l0_0 (y207 ++ y210)) else (none))) else (none)) else (none)) = some (r1, r2) := by first | (rw [hji37] at H; exact H) | (simp only [hji37] at H ⊢; exact H)
             have hji37w : (IntKind.i64.wrap (x37_1 + 1)) = ji37 := (i64_w _).trans hji37
             by_cases c38 : 0 ≤ (ji37)
             ·rw [if_pos c38] at H
              have c38b0 := eq_true c38
              have c38b1 : decide (0 ≤ (ji37)) = true := decide_eq_true c38
              clear c38
              by_cases c39 : (ji37) ≤ (y195.length : Int)
              ·rw [if_pos c39] at H
               have c39b0 := eq_true c39
               have c39b1 : decide ((ji37) ≤ (y195.length : Int)) = true := decide_eq_true c39
               clear c39
               obtain ⟨y210, hy210⟩ : ∃ y_ : List (S108), y_ = (y195.drop ((ji37) : Int).toNat) := ⟨_, rfl⟩
               replace H : (if y207.length + y210.length < 4398046511104 then (impl_SendNotice.j1 k1 l0_0 (y207 ++ y210)) else (none)) = some (r1, r2) := by first | (rw [hy210]; with_reducible exact H) | (have H2_ := (Option.bind_some _ _).symm.trans H; rw [hy210]; with_reducible exact H2_) | (have H2_ := (Option.bind_some _ _).symm.trans H; with_reducible exact H2_) | with_reducible exact H | (rw [hy210]; exact H) | exact H
               have Ny210 := Aside0.mk hy210
               clear hy210
               by_cases c40 : y207.length + y210.length < 4398046511104
               ·rw [if_pos c40] at H
                have LMc40 := Aside0.mk c40
                clear c40
                obtain ⟨y214, hy214⟩ : ∃ y_ : List (S108), y_ = (y207 ++ y210) := ⟨_, rfl⟩
                replace H : (impl_SendNotice.j1 k1 l0_0 y214) = some (r1, r2) := by first | (rw [hy214]; with_reducible exact H) | (have H2_ := (Option.bind_some _ _).symm.trans H; rw [hy214]; with_reducible exact H2_) | (have H2_ := (Option.bind_some _ _).symm.trans H; with_reducible exact H2_) | with_reducible exact H | (rw [hy214]; exact H) | exact H
                have Ny214 := Aside0.mk hy214
                clear hy214
                have H' := Aside0.mk H
                clear H
                have p198 : 0 ≤ (x37_1 : Int) := of_decide_eq_true tA
                have q198 : x37_1 < (y195.length : Int) := of_decide_eq_true tA
                obtain ⟨ad198, e198, hx198_0, hx198_1, hx198_2, hx198_3⟩ := at_T108 (Kd.R_reads' HO_195000.out).2.2 x37_1 p198 q198
                (try rw [← Nbq32.out] at hx198_3)
                cases e198
                replace p198 := eq_true p198
                replace q198 := eq_true q198
                try go_wp2_with (first | ((with_reducible refine gate_dst (N := 13) rfl ?_); refine box_event ?hg (N := 13) ?hd (cs := #[.int .i64 0, .int .i64 0, .int .i64 0, .bool false]) (t := 108) ?hr ?_; (case hd => rfl); (case hg => rfl); (case hr => exact tG); intro gb199 hg w41 hbox hb; replace HO_195000 := Aside0.mk (Kd.R_below (Kd.R_elderB (tR HO_195000) gb199 (Nat.le_of_eq hg.symm)) hb); have BK199 := Aside0.mk (hbox); have GW199 := gW HB hg; have GE199 := gW HB hg; replace HB := bH HB hb; have NB185_199 := nL BK185 hg; have NB199_185 := nR BK185 hg; replace BK185 := bB BK185 hb; have NB186_199 := nL BK186 hg; have NB199_186 := nR BK186 hg; replace BK186 := bB BK186 hb; have NB194_199 := nL BK194 hg; have NB199_194 := nR BK194 hg; replace BK194 := bB BK194 hb; clear hb hbox hg; have hnb42 := NB199_185.out; have hnc42 := NB185_199.out; have hnb43 := NB199_186.out; have hnc43 := NB186_199.out; have hnb44 := NB199_194.out; have hnc44 := NB194_199.out; obtain ⟨hcz45_0, hcz45_1, hcz45_2, hcz45_3, hfz45_0, hfz45_1, hfz45_2, hfz45_3⟩ := bc4 BK199.out))
                have n0_ : Aside0 (Kd.R k108 108 ((((w41.setCell ⟨gb199, 0, none⟩ (.int .i64 ((rd_T108 y195 x37_1).f0))).setCell ⟨gb199, 1, none⟩ (.int .i64 ((rd_T108 y195 x37_1).f1))).setCell ⟨gb199, 2, none⟩ (.int .i64 ((rd_T108 y195 x37_1).f2))).setCell ⟨gb199, 3, none⟩ (.bool true)) w.heap.size (fun k_ => k_ ≠ gb199) (.slice (some ad198) y195.length co23) y195) := ⟨by (with_reducible repeat (first | apply Kd.R_alloc | apply Kd.R_drewN | apply Kd.R_drew)); exact Kd.R_mono (Kd.R_far (p := ⟨gb199, 3, none⟩) (Kd.R_far (p := ⟨gb199, 2, none⟩) (Kd.R_far (p := ⟨gb199, 1, none⟩) (Kd.R_far (p := ⟨gb199, 0, none⟩) (Kd.R_mono HO_195000.out (fun k_ hk => (⟨hk, hk.2⟩ : _ ∧ k_ ≠ gb199))) (fun _ hk => hk.2) (.int .i64 ((rd_T108 y195 x37_1).f0))) (fun _ hk => hk.2) (.int .i64 ((rd_T108 y195 x37_1).f1))) (fun _ hk => hk.2) (.int .i64 ((rd_T108 y195 x37_1).f2))) (fun _ hk => hk.2) (.bool true)) (fun _ hk => hk.1.2)⟩
                have n1_ : Aside0 (((((w41.setCell ⟨gb199, 0, none⟩ (.int .i64 ((rd_T108 y195 x37_1).f0))).setCell ⟨gb199, 1, none⟩ (.int .i64 ((rd_T108 y195 x37_1).f1))).setCell ⟨gb199, 2, none⟩ (.int .i64 ((rd_T108 y195 x37_1).f2))).setCell ⟨gb199, 3, none⟩ (.bool true)).heap[gb185]? = some (.cells #[.slice A0_0 l0_0.length c0_0] 65 (0, 0))) := ⟨kF NB185_199 BK185⟩
                have n2_ : Aside0 (((((w41.setCell ⟨gb199, 0, none⟩ (.int .i64 ((rd_T108 y195 x37_1).f0))).setCell ⟨gb199, 1, none⟩ (.int .i64 ((rd_T108 y195 x37_1).f1))).setCell ⟨gb199, 2, none⟩ (.int .i64 ((rd_T108 y195 x37_1).f2))).setCell ⟨gb199, 3, none⟩ (.bool true)).heap[gb186]? = some (.cells #[.slice none 0 0] 65 (0, 0))) := ⟨kF NB186_199 BK186⟩
                have n3_ : Aside0 (((((w41.setCell ⟨gb199, 0, none⟩ (.int .i64 ((rd_T108 y195 x37_1).f0))).setCell ⟨gb199, 1, none⟩ (.int .i64 ((rd_T108 y195 x37_1).f1))).setCell ⟨gb199, 2, none⟩ (.int .i64 ((rd_T108 y195 x37_1).f2))).setCell ⟨gb199, 3, none⟩ (.bool true)).heap[gb194]? = some (.cells #[.slice (some ad198) y195.length co23] 65 (0, 0))) := ⟨kF NB194_199 BK194⟩
                have n4_ : Aside0 (((((w41.setCell ⟨gb199, 0, none⟩ (.int .i64 ((rd_T108 y195 x37_1).f0))).setCell ⟨gb199, 1, none⟩ (.int .i64 ((rd_T108 y195 x37_1).f1))).setCell ⟨gb199, 2, none⟩ (.int .i64 ((rd_T108 y195 x37_1).f2))).setCell ⟨gb199, 3, none⟩ (.bool true)).heap[gb199]? = some (.cells #[.int .i64 ((rd_T108 y195 x37_1).f0), .int .i64 ((rd_T108 y195 x37_1).f1), .int .i64 ((rd_T108 y195 x37_1).f2), .bool true] 108 (0, 0))) := ⟨by (with_reducible repeat (first | refine blk_drewN ?_ _ | refine blk_drew ?_ | refine blk_alloc ?_ _)); refine blk_put (cs := #[.int .i64 ((rd_T108 y195 x37_1).f0), .int .i64 ((rd_T108 y195 x37_1).f1), .int .i64 ((rd_T108 y195 x37_1).f2), .bool false]) ?_ 3 _ rfl; (with_reducible repeat (first | refine blk_drewN ?_ _ | refine blk_drew ?_ | refine blk_alloc ?_ _)); refine blk_put (cs := #[.int .i64 ((rd_T108 y195 x37_1).f0), .int .i64 ((rd_T108 y195 x37_1).f1), .int .i64 0, .bool false]) ?_ 2 _ rfl; (with_reducible repeat (first | refine blk_drewN ?_ _ | refine blk_drew ?_ | refine blk_alloc ?_ _)); refine blk_put (cs := #[.int .i64 ((rd_T108 y195 x37_1).f0), .int .i64 0, .int .i64 0, .bool false]) ?_ 1 _ rfl; (with_reducible repeat (first | refine blk_drewN ?_ _ | refine blk_drew ?_ | refine blk_alloc ?_ _)); refine blk_put (cs := #[.int .i64 0, .int .i64 0, .int .i64 0, .bool false]) ?_ 0 _ rfl; (with_reducible repeat (first | refine blk_drewN ?_ _ | refine blk_drew ?_ | refine blk_alloc ?_ _)); exact BK199.out⟩
                have n5_ : Aside0 (Below w.heap.size w ((((w41.setCell ⟨gb199, 0, none⟩ (.int .i64 ((rd_T108 y195 x37_1).f0))).setCell ⟨gb199, 1, none⟩ (.int .i64 ((rd_T108 y195 x37_1).f1))).setCell ⟨gb199, 2, none⟩ (.int .i64 ((rd_T108 y195 x37_1).f2))).setCell ⟨gb199, 3, none⟩ (.bool true))) := ⟨tB⟩
                (try clear HO_195000)
                (try clear BK185)
                (try clear BK186)
                (try clear BK194)
                (try clear BK199)
                (try clear HB)
                generalize ((((w41.setCell ⟨gb199, 0, none⟩ (.int .i64 ((rd_T108 y195 x37_1).f0))).setCell ⟨gb199, 1, none⟩ (.int .i64 ((rd_T108 y195 x37_1).f1))).setCell ⟨gb199, 2, none⟩ (.int .i64 ((rd_T108 y195 x37_1).f2))).setCell ⟨gb199, 3, none⟩ (.bool true)) = w46 at n0_ n1_ n2_ n3_ n4_ n5_ ⊢
                have HO_195000 := n0_
                have BK185 := n1_
                have BK186 := n2_
                have BK194 := n3_
                have BK199 := n4_
                have HB := n5_
                clear n0_ n1_ n2_ n3_ n4_ n5_
                replace HO_195000 := Aside0.mk (Kd.R_drew HO_195000.out)
                replace BK185 := Aside0.mk (blk_drew BK185.out)
                replace BK186 := Aside0.mk (blk_drew BK186.out)
                replace BK194 := Aside0.mk (blk_drew BK194.out)
                replace BK199 := Aside0.mk (blk_drew BK199.out)
                replace HB := Aside0.mk (below_drew1 HB.out)
                have q48 : (x37_1 : Int) ≤ ((y195.length : Int) : Int) := of_decide_eq_true tA
                obtain ⟨i048, hi048, _, hsz48, _⟩ := info_parts info108
                have hroom48 : y195.length ≤ co23 := (Kd.R_reads' HO_195000.out).2.1
                have hC48 : Kd.C k108 _ (some ad198) y195.length y195 := (Kd.R_reads' HO_195000.out).2.2
                have hcut48 := cut_to (P := Try.prog) 63 108 .i64 Try.underlying63 hi048 (some ad198) y195.length co23 x37_1 (of_decide_eq_true tA) q48 hroom48
                have hr48 := Kd.C_take (m := (x37_1 : Int).toNat) hC48 (by omega)
                have hy48 : y203.length = (x37_1 : Int).toNat := (by rw [Ny203.out, List.length_take]; omega)
                rw [← Ny203.out] at hr48
                rw [← hy48] at hcut48
                have HR206 := Aside0.mk hr48
                have HC206 := Aside0.mk (show y203.length ≤ co23 from by omega)
                clear hr48 hC48 hroom48 hi048 hsz48
                have KY48 := Aside0.mk hy48
                clear hy48
                have KL48 := Aside0.mk (show (x37_1 : Int).toNat ≤ y195.length from by omega)
                replace q48 := eq_true q48
                have q49 : ((ji37) : Int) ≤ ((y195.length : Int) : Int) := of_decide_eq_true tA
                obtain ⟨i049, hi049, _, hsz49, _⟩ := info_parts info108
                have hroom49 : y195.length ≤ co23 := (Kd.R_reads' HO_195000.out).2.1
                have hC49 : Kd.C k108 _ (some ad198) y195.length y195 := (Kd.R_reads' HO_195000.out).2.2
                have q049 : (0 : Int) ≤ ((ji37) : Int) := of_decide_eq_true tA
                have hcut49 := cut_from (P := Try.prog) 63 108 .i64 Try.underlying63 hi049 4 hsz49 (some ad198) y195.length co23 (ji37) q049 q49
                have hr49 := Kd.C_drop (m := ((ji37) : Int).toNat) (c := co23) hC49 (by omega) hroom49
                obtain ⟨A49, hA49⟩ : ∃ A1, A1 = (if co23 = ((ji37) : Int).toNat then (some ad198) else ((some ad198) : Option Addr).map (·.add (((ji37) : Int).toNat * 4))) := ⟨_, rfl⟩
                obtain ⟨c49, hc49⟩ : ∃ c1, c1 = co23 - ((ji37) : Int).toNat := ⟨_, rfl⟩
                have hy49 : y210.length = y195.length - ((ji37) : Int).toNat := (by rw [Ny210.out, List.length_drop] <;> omega)
                rw [show (y195).drop ((ji37) : Int).toNat = y210 from Ny210.out.symm] at hr49
                replace hr49 : Kd.C k108 _ A49 y210.length y210 := (by rw [hA49]; exact hr49)
                rw [← hy49, ← hA49, ← hc49] at hcut49
                have HR213 := Aside0.mk hr49
                have HC213 := Aside0.mk (show y210.length ≤ c49 from by rw [hy49, hc49]; exact Nat.sub_le_sub_right hroom49 _)
                clear hr49 hC49 hroom49 hi049 hsz49 hc49
                have KY49 := Aside0.mk hy49
                have KA49 := Aside0.mk hA49
                clear hy49 hA49
                have KL49 := Aside0.mk (show ((ji37) : Int).toNat ≤ y195.length from by omega)
                replace q49 := eq_true q49
                refine start_ (n := 14) (S := fun w' => w'.cell? ⟨gb194, 0, none⟩ = some (.slice (some ad198) y195.length co23)) (ds := [13]) #[N_,N_,N_,N_,N_,N_,N_,N_,N_,N_,N_,N_,N_,N_] (by kernel_rfl) rfl rfl ((blk_cell BK194.out 0).trans rfl) (fun hHeld => ?_); refine with_tabW impl_SendNotice.tab13 impl_SendNotice.bits13 (fun HT_ HW_ => ?_)
                generalize w46.drew = w47 at HO_195000 BK185 BK186 BK194 BK199 HB HR206 HR213 hHeld ⊢
                refine pure_ (i := 1) (N := some 47) #[N_,Y_,N_,N_,N_,N_,N_,N_,N_,N_,N_,N_,N_,N_] rfl rfl (any_of HT_.out (by kernel_rfl)) (fun _ _ _ h => h) (Or.inl ⟨by rfl, tX⟩) tV ?_
                refine pure_ (i := 3) (N := some 49) #[N_,Y_,N_,Y_,N_,N_,N_,N_,N_,N_,N_,N_,N_,N_] rfl rfl (any_of HT_.out (by kernel_rfl)) (fun _ _ _ h => h) (Or.inl ⟨by rfl, tX⟩) tV ?_
                refine pure_ (i := 6) (N := some 52) #[N_,Y_,N_,Y_,N_,N_,Y_,N_,N_,N_,N_,N_,N_,N_] rfl rfl (any_of HT_.out (by kernel_rfl)) (fun _ _ _ h => h) (Or.inl ⟨by rfl, tX⟩) tV ?_
                refine pure_ (i := 8) (N := some 54) #[N_,Y_,N_,Y_,N_,N_,Y_,N_,Y_,N_,N_,N_,N_,N_] rfl rfl (any_of HT_.out (by kernel_rfl)) (fun _ _ _ h => h) (Or.inl ⟨by rfl, tX⟩) tV ?_
                refine pure_ (i := 9) (N := some 55) #[N_,Y_,N_,Y_,N_,N_,Y_,N_,Y_,Y_,N_,N_,N_,N_] rfl rfl (any_of HT_.out (by kernel_rfl)) (fun _ _ _ h => h) (Or.inl ⟨by rfl, tX⟩) tV ?_
                refine take_ (i := 2) (N := some 48) (v := ?_) (a' := ?_) #[N_,Y_,Y_,Y_,N_,N_,Y_,N_,Y_,Y_,N_,N_,N_,N_] rfl rfl (take_ofW HT_.out HW_.out (by kernel_rfl)) (fun _ _ _ h => h) (Or.inl ⟨by rfl, ?_⟩) hHeld ?_ ?_
                rotate_left
                ·intro w' s0
                 go_simp
                 with_reducible rfl
                rotate_left
                ·simp only [Act.put, List.setIfInBounds_toArray, List.set_cons_zero, List.set_cons_succ, i64_w, i32_w]
                 rfl
                refine pure_ (i := 4) (N := some 50) #[N_,Y_,Y_,Y_,Y_,N_,Y_,N_,Y_,Y_,N_,N_,N_,N_] rfl rfl (any_of HT_.out (by kernel_rfl)) (fun _ _ _ h => h) (Or.inl ⟨by rfl, tX⟩) tV ?_
                refine take_ (i := 7) (N := some 53) (v := ?_) (a' := ?_) #[N_,Y_,Y_,Y_,Y_,N_,Y_,Y_,Y_,Y_,N_,N_,N_,N_] rfl rfl (take_ofW HT_.out HW_.out (by kernel_rfl)) (fun _ _ _ h => h) (Or.inl ⟨by rfl, ?_⟩) hHeld ?_ ?_
                rotate_left
                ·intro w' s0
                 go_simp
                 with_reducible rfl
                rotate_left
                ·simp only [Act.put, List.setIfInBounds_toArray, List.set_cons_zero, List.set_cons_succ, i64_w, i32_w]
                 rfl
                refine pure_ (i := 10) (N := some 56) #[N_,Y_,Y_,Y_,Y_,N_,Y_,Y_,Y_,Y_,Y_,N_,N_,N_] rfl rfl (any_of HT_.out (by kernel_rfl)) (fun _ _ _ h => h) (Or.inl ⟨by rfl, tX⟩) tV ?_
                refine one_ (i := 0) (N := some 46) #[Y_,Y_,Y_,Y_,Y_,N_,Y_,Y_,Y_,Y_,Y_,N_,N_,N_] rfl rfl (one_of HT_.out (by kernel_rfl)) (by decide) (fun K hK => ?_)
                refine Kd.R_lit_step k108 _ 108 ?hg (N := 46) ?hd (xs := ([] : List (S108))) (inner := []) (ok := fun _ => True) (okp := fun _ => True) ?hr ?hp (fun _ hk => hk) trivial (Below.refl _ _) (Nat.le_refl _) (by simp) ?_; (case hd => rfl); (case hg => rfl); (case hr => exact tG); (case hp => exact (Reps.none _ _))
                intro v201 w50 ho51 hb hg_ hnew_
                clear hg_ hnew_
                (first | rw [← Ny200.out] at ho51 | (simp only [Int.reduceToNat] at ho51; rw [← Ny200.out] at ho51))
                have HO202 := Aside0.mk (Kd.R_lower (Kd.R_newB (Kd.R_new' ho51 (Kd.R_lt (tR HO_195000))) (g := gb199) (o := .cells #[.int .i64 ((rd_T108 y195 x37_1).f0), .int .i64 ((rd_T108 y195 x37_1).f1), .int .i64 ((rd_T108 y195 x37_1).f2), .bool true] 108 (0, 0)) (tK BK199)) (below_size tB))
                replace HO_195000 := Aside0.mk (Kd.R_elder' (tR HO_195000) (Kd.R_base ho51) hb)
                replace BK185 := bB BK185 hb
                replace BK186 := bB BK186 hb
                replace BK194 := bB BK194 hb
                replace BK199 := bB BK199 hb
                replace HR206 := Aside0.mk (Kd.C_below (by repeat (first | (with_reducible exact HR206.out) | (with_reducible refine Kd.C_alloc ?_ _) | (with_reducible refine Kd.C_drewN ?_ _) | (with_reducible refine Kd.C_drew ?_) | exact HR206.out)) hb)
                replace HR213 := Aside0.mk (Kd.C_below (by repeat (first | (with_reducible exact HR213.out) | (with_reducible refine Kd.C_alloc ?_ _) | (with_reducible refine Kd.C_drewN ?_ _) | (with_reducible refine Kd.C_drew ?_) | exact HR213.out)) hb)
                replace HB := bH HB hb
                clear hb ho51
                refine hK.out _ _ ((blk_cell BK194.out 0).trans rfl) (fun hHeld => ?_)
                clear hK K
                refine norm_ (tV : Act.put _ (some 46) _ = _) ?_
                refine one_ (i := 5) (N := some 51) #[Y_,Y_,Y_,Y_,Y_,Y_,Y_,Y_,Y_,Y_,Y_,N_,N_,N_] rfl rfl (one_of HT_.out (by kernel_rfl)) (by decide) (fun K hK => ?_)
                refine Kd.R_append_rows_step k108 (w0 := w) w.heap.size (by rfl) (.tmp 46) (.tmp 50) 63 108 (.agg #[(.int .i64 0), (.int .i64 0), (.int .i64 0), (.bool false)]) 32 rfl Try.underlying63 info108 rfl (by decide) (by omega) v201 y200 y203 _ _ _ (fun k_ => some k_ ≠ (.slice (some ad198) y195.length co23 : Value).ownBlock ∧ k_ ≠ gb199) (fun _ => False) rfl rfl ?aO ?aR (fun _ _ h => h) (fun _ h => h.elim) ?aF ?aB ?aS ?aL ?_
                (case aR => repeat (first | exact (by repeat (first | (with_reducible exact HR206.out) | (with_reducible refine Kd.C_alloc ?_ _) | (with_reducible refine Kd.C_drewN ?_ _) | (with_reducible refine Kd.C_drew ?_) | exact HR206.out)) | (with_reducible refine Kd.C_alloc ?_ _) | (with_reducible refine Kd.C_drewN ?_ _) | (with_reducible refine Kd.C_drew ?_)))
                (case aB => exact tB)
                (case aF => exact (fun k_ hk => ⟨Kd.fresh' (Kd.R_lt (tR HO_195000)) k_ hk, Kd.freshB (g := gb199) (o := .cells #[.int .i64 ((rd_T108 y195 x37_1).f0), .int .i64 ((rd_T108 y195 x37_1).f1), .int .i64 ((rd_T108 y195 x37_1).f2), .bool true] 108 (0, 0)) (tK BK199) k_ hk⟩))
                (case aO => exact (by (with_reducible repeat (first | apply Kd.R_alloc | apply Kd.R_drewN | apply Kd.R_drew)); exact Kd.R_mono HO202.out (fun _ hk => ⟨hk.1.2, hk.2⟩)))
                (case aS => exact (below_size tB))
                (case aL => have := LMc36.out; omega)
                intro v208 w52 ho hb hg hat
                rw [← Ny207.out] at ho
                replace BK185 := Aside0.mk (blk_grown (g := gb185) (o := .cells #[.slice A0_0 l0_0.length c0_0] 65 (0, 0)) (tK BK185) hg (Kd.R_ne HO202.out BK185.out (by decide)))
                replace BK186 := Aside0.mk (blk_grown (g := gb186) (o := .cells #[.slice none 0 0] 65 (0, 0)) (tK BK186) hg (Kd.R_ne HO202.out BK186.out (by decide)))
                replace BK194 := Aside0.mk (blk_grown (g := gb194) (o := .cells #[.slice (some ad198) y195.length co23] 65 (0, 0)) (tK BK194) hg (Kd.R_ne HO202.out BK194.out (by decide)))
                replace BK199 := Aside0.mk (blk_grown (g := gb199) (o := .cells #[.int .i64 ((rd_T108 y195 x37_1).f0), .int .i64 ((rd_T108 y195 x37_1).f1), .int .i64 ((rd_T108 y195 x37_1).f2), .bool true] 108 (0, 0)) (tK BK199) hg (Kd.R_away HO202.out (fun _ hk => hk.2)))
                replace HB := Aside0.mk (hb)
                replace HR206 := Aside0.mk ((show Kd.C k108 w52 (some ad198) y203.length y203 from by rw [Ny203.out]; exact Kd.C_take (m := (x37_1 : Int).toNat) ((Kd.R_reads' (Kd.R_after (ok := (fun k_ => k_ ≠ gb199)) (tR HO_195000) hg hat)).2.2) KL48.out))
                replace HR213 := Aside0.mk ((show Kd.C k108 w52 A49 y210.length y210 from by rw [Ny210.out, KA49.out]; exact Kd.C_drop (m := ((ji37) : Int).toNat) (c := co23) ((Kd.R_reads' (Kd.R_after (ok := (fun k_ => k_ ≠ gb199)) (tR HO_195000) hg hat)).2.2) KL49.out ((Kd.R_reads' (Kd.R_after (ok := (fun k_ => k_ ≠ gb199)) (tR HO_195000) hg hat)).2.1)))
                replace HO_195000 := Aside0.mk (Kd.R_after (ok := (fun k_ => k_ ≠ gb199)) (tR HO_195000) hg hat)
                have HO209 := Aside0.mk (ho)
                clear HO202
                clear ho hb hg hat
                refine hK.out _ _ ((blk_cell BK194.out 0).trans rfl) (fun hHeld => ?_)
                clear hK K
                refine norm_ (tV : Act.put _ (some 51) _ = _) ?_
                refine one_ (i := 11) (N := some 57) #[Y_,Y_,Y_,Y_,Y_,Y_,Y_,Y_,Y_,Y_,Y_,Y_,N_,N_] rfl rfl (one_of HT_.out (by kernel_rfl)) (by decide) (fun K hK => ?_)
                refine Kd.R_append_rows_step k108 (w0 := w) w.heap.size (by rfl) (.tmp 51) (.tmp 56) 63 108 (.agg #[(.int .i64 0), (.int .i64 0), (.int .i64 0), (.bool false)]) 32 rfl Try.underlying63 info108 rfl (by decide) (by omega) v208 y207 y210 _ _ _ (fun k_ => some k_ ≠ (.slice (some ad198) y195.length co23 : Value).ownBlock ∧ k_ ≠ gb199) (fun _ => False) rfl rfl ?aO ?aR (fun _ _ h => h) (fun _ h => h.elim) ?aF ?aB ?aS ?aL ?_
                (case aR => repeat (first | exact (by repeat (first | (with_reducible exact HR213.out) | (with_reducible refine Kd.C_alloc ?_ _) | (with_reducible refine Kd.C_drewN ?_ _) | (with_reducible refine Kd.C_drew ?_) | exact HR213.out)) | (with_reducible refine Kd.C_alloc ?_ _) | (with_reducible refine Kd.C_drewN ?_ _) | (with_reducible refine Kd.C_drew ?_)))
                (case aB => exact tB)
                (case aF => exact (fun k_ hk => ⟨Kd.fresh' (Kd.R_lt (tR HO_195000)) k_ hk, Kd.freshB (g := gb199) (o := .cells #[.int .i64 ((rd_T108 y195 x37_1).f0), .int .i64 ((rd_T108 y195 x37_1).f1), .int .i64 ((rd_T108 y195 x37_1).f2), .bool true] 108 (0, 0)) (tK BK199) k_ hk⟩))
                (case aO => exact (tR HO209))
                (case aS => exact (below_size tB))
                (case aL => have := LMc40.out; omega)
                intro v215 w53 ho hb hg hat
                rw [← Ny214.out] at ho
                replace BK185 := Aside0.mk (blk_grown (g := gb185) (o := .cells #[.slice A0_0 l0_0.length c0_0] 65 (0, 0)) (tK BK185) hg (Kd.R_ne HO209.out BK185.out (by decide)))
                replace BK186 := Aside0.mk (blk_grown (g := gb186) (o := .cells #[.slice none 0 0] 65 (0, 0)) (tK BK186) hg (Kd.R_ne HO209.out BK186.out (by decide)))
                replace BK194 := Aside0.mk (blk_grown (g := gb194) (o := .cells #[.slice (some ad198) y195.length co23] 65 (0, 0)) (tK BK194) hg (Kd.R_ne HO209.out BK194.out (by decide)))
                replace BK199 := Aside0.mk (blk_grown (g := gb199) (o := .cells #[.int .i64 ((rd_T108 y195 x37_1).f0), .int .i64 ((rd_T108 y195 x37_1).f1), .int .i64 ((rd_T108 y195 x37_1).f2), .bool true] 108 (0, 0)) (tK BK199) hg (Kd.R_away HO209.out (fun _ hk => hk.2)))
                replace HB := Aside0.mk (hb)
                replace HR206 := Aside0.mk ((show Kd.C k108 w53 (some ad198) y203.length y203 from by rw [Ny203.out]; exact Kd.C_take (m := (x37_1 : Int).toNat) ((Kd.R_reads' (Kd.R_after (ok := (fun k_ => k_ ≠ gb199)) (tR HO_195000) hg hat)).2.2) KL48.out))
                replace HR213 := Aside0.mk ((show Kd.C k108 w53 A49 y210.length y210 from by rw [Ny210.out, KA49.out]; exact Kd.C_drop (m := ((ji37) : Int).toNat) (c := co23) ((Kd.R_reads' (Kd.R_after (ok := (fun k_ => k_ ≠ gb199)) (tR HO_195000) hg hat)).2.2) KL49.out ((Kd.R_reads' (Kd.R_after (ok := (fun k_ => k_ ≠ gb199)) (tR HO_195000) hg hat)).2.1)))
                replace HO_195000 := Aside0.mk (Kd.R_after (ok := (fun k_ => k_ ≠ gb199)) (tR HO_195000) hg hat)
                have HO216 := Aside0.mk (ho)
                clear HO209
                clear ho hb hg hat
                obtain ⟨Ao54, co54, eo54⟩ := Kd.R_slice HO216.out
                (first | subst eo54 | (injection eo54 with f1_ f2_ f3_; have f4_ := f1_.symm; have f5_ := f3_.symm; clear f1_ f2_ f3_; subst f4_; subst f5_))
                refine hK.out _ _ ((blk_cell BK194.out 0).trans rfl) (fun hHeld => ?_)
                clear hK K
                refine norm_ (tV : Act.put _ (some 57) _ = _) ?_
                refine pure_ (i := 12) (N := some 58) #[Y_,Y_,Y_,Y_,Y_,Y_,Y_,Y_,Y_,Y_,Y_,Y_,Y_,N_] rfl rfl (any_of HT_.out (by kernel_rfl)) (fun _ _ _ h => h) (Or.inl ⟨by rfl, tX⟩) tV ?_
                refine last_ (i := 13) (N := none) #[Y_,Y_,Y_,Y_,Y_,Y_,Y_,Y_,Y_,Y_,Y_,Y_,Y_,Y_] rfl rfl (one_of HT_.out (by kernel_rfl)) (by decide) (fun K hK => ?_)
                have hs55 : w53.cell? ⟨gb194, 0, none⟩ = some (.slice (some ad198) y195.length co23) := (blk_cell BK194.out 0).trans rfl
                have hfs55 := blk_frozen BK194.out 0
                have hns55_0 := NB185_194.out
                have hns55_1 := NB186_194.out
                have hns55_3 := NB199_194.out
                have hms55_0 := NB194_185.out
                have hms55_1 := NB194_186.out
                have hms55_3 := NB194_199.out
                refine skip_ (w1 := ?_) (by rfl) rfl ?_ ?_
                rotate_left
                ·go_simp
                 rfl
                refine hK.out _ _ ?_
                clear hK K
                refine done_ (done_of HT_.out (by kernel_rfl)) ?_
                try go_wp2
                go_meet
                case rel => exact ⟨_, (y214), (.slice Ao54 y214.length co54), H', ⟨by have := HK1.out; first | omega | exact Nat.le_refl _⟩, ⟨by (with_reducible repeat (first | apply Kd.R_alloc | apply Kd.R_drewN | apply Kd.R_drew)); exact Kd.R_mono (Kd.R_far (p := ⟨gb194, 0, none⟩) (Kd.R_types HO216.out BK194.out (by decide)) (fun _ hk => hk.2) (.slice Ao54 y214.length co54)) (fun _ hk => trivial)⟩, ⟨kF NB185_194 BK185⟩, ⟨kF NB186_194 BK186⟩, ⟨by (with_reducible repeat (first | refine blk_drewN ?_ _ | refine blk_drew ?_ | refine blk_alloc ?_ _)); refine blk_put (cs := #[.slice (some ad198) y195.length co23]) ?_ 0 _ rfl; (with_reducible repeat (first | refine blk_drewN ?_ _ | refine blk_drew ?_ | refine blk_alloc ?_ _)); exact BK194.out⟩, ⟨tB⟩⟩
               rw [if_neg c40] at H
               exact absurd H (by simp)
              rw [if_neg c39] at H
              exact absurd H (by simp)
             rw [if_neg c38] at H
             exact absurd H (by simp)
            rw [if_neg c36] at H
            exact absurd H (by simp)
           rw [if_neg c35] at H
           exact absurd H (by simp)
          replace c33 := Bool.eq_false_iff.mpr c33
          subst c33
          have H1 : (impl_SendNotice.l0 k1 x11_1 (y195.length : Int) (wrap64 (x37_1 + 1)) l0_0 y195) = some (r1, r2) := by rw [if_neg (show ¬ (false = true) by decide)] at H; exact H
          clear H
          have H := H1
          clear H1
          have H' := Aside0.mk H
          clear H
          have p198 : 0 ≤ (x37_1 : Int) := of_decide_eq_true tA
          have q198 : x37_1 < (y195.length : Int) := of_decide_eq_true tA
          obtain ⟨ad198, e198, hx198_0, hx198_1, hx198_2, hx198_3⟩ := at_T108 (Kd.R_reads' HO_195000.out).2.2 x37_1 p198 q198
          (try rw [← Nbq32.out] at hx198_3)
          cases e198
          replace p198 := eq_true p198
          replace q198 := eq_true q198
          go_wp2_with (first | ((with_reducible refine gate_dst (N := 13) rfl ?_); refine box_event ?hg (N := 13) ?hd (cs := #[.int .i64 0, .int .i64 0, .int .i64 0, .bool false]) (t := 108) ?hr ?_; (case hd => rfl); (case hg => rfl); (case hr => exact tG); intro gb199 hg w56 hbox hb; replace HO_195000 := Aside0.mk (Kd.R_below (Kd.R_elderB (tR HO_195000) gb199 (Nat.le_of_eq hg.symm)) hb); have BK199 := Aside0.mk (hbox); have GW199 := gW HB hg; have GE199 := gW HB hg; replace HB := bH HB hb; have NB185_199 := nL BK185 hg; have NB199_185 := nR BK185 hg; replace BK185 := bB BK185 hb; have NB186_199 := nL BK186 hg; have NB199_186 := nR BK186 hg; replace BK186 := bB BK186 hb; have NB194_199 := nL BK194 hg; have NB199_194 := nR BK194 hg; replace BK194 := bB BK194 hb; clear hb hbox hg; have hnb57 := NB199_185.out; have hnc57 := NB185_199.out; have hnb58 := NB199_186.out; have hnc58 := NB186_199.out; have hnb59 := NB199_194.out; have hnc59 := NB194_199.out; obtain ⟨hcz60_0, hcz60_1, hcz60_2, hcz60_3, hfz60_0, hfz60_1, hfz60_2, hfz60_3⟩ := bc4 BK199.out))
          go_roundg k1
          case measure => have := HK1.out; omega
          case rel => exact ⟨(x11_1), (wrap64 (x37_1 + 1)), tS, tS, H', ⟨tI⟩, ⟨by (with_reducible repeat (first | apply Kd.R_alloc | apply Kd.R_drewN | apply Kd.R_drew)); exact Kd.R_mono (Kd.R_far (p := ⟨gb199, 3, none⟩) (Kd.R_far (p := ⟨gb199, 2, none⟩) (Kd.R_far (p := ⟨gb199, 1, none⟩) (Kd.R_far (p := ⟨gb199, 0, none⟩) (Kd.R_mono HO_195000.out (fun k_ hk => (⟨hk, hk.2⟩ : _ ∧ k_ ≠ gb199))) (fun _ hk => hk.2) (.int .i64 ((rd_T108 y195 x37_1).f0))) (fun _ hk => hk.2) (.int .i64 ((rd_T108 y195 x37_1).f1))) (fun _ hk => hk.2) (.int .i64 ((rd_T108 y195 x37_1).f2))) (fun _ hk => hk.2) (.bool false)) (fun _ hk => trivial)⟩, ⟨kF NB185_199 BK185⟩, ⟨kF NB186_199 BK186⟩, ⟨kF NB194_199 BK194⟩, ⟨tB⟩⟩
         rw [if_neg c31] at H
         exact absurd H (by simp)
        rw [if_neg c30] at H
        exact absurd H (by simp)
       rw [if_neg c29] at H
       have c29b0 : decide (x37_1 < (y195.length : Int)) = false := decide_eq_false c29
       clear c29
       obtain ⟨y217, hy217⟩ : ∃ y_ : List (S108), y_ = (([] : List (S108))) := ⟨_, rfl⟩
       replace H : (if 0 ≤ x11_1 then (if x11_1 ≤ (y195.length : Int) then ((some (y195.take (x11_1 : Int).toNat : List (S108))).bind fun y220 => (if y217.length + y220.length < 4398046511104 then ((some (y217 ++ y220 : List (S108))).bind fun y224 => (if 0 ≤ (wrap64 (x11_1 + 1)) then (if (wrap64 (x11_1 + 1)) ≤ (y195.length : Int) then ((some (y195.drop ((wrap64 (x11_1 + 1)) : Int).toNat : List (S108))).bind fun y227 => (if y224.length + y227.length < 4398046511104 then (impl_SendNotice.j1 k1 l0_0 (y224 ++ y227)) else (none))) else (none)) else (none))) else (none))) else (none)) else (none)) = some (r1, r2) := by first | (rw [hy217]; with_reducible exact H) | (have H2_ := (Option.bind_some _ _).symm.trans H; rw [hy217]; with_reducible exact H2_) | (have H2_ := (Option.bind_some _ _).symm.trans H; with_reducible exact H2_) | with_reducible exact H | (rw [hy217]; exact H) | exact H
       have Ny217 := Aside0.mk hy217
       clear hy217
       by_cases c61 : 0 ≤ x11_1
       ·rw [if_pos c61] at H
        have c61b0 := eq_true c61
        have c61b1 : decide (0 ≤ x11_1) = true := decide_eq_true c61
        clear c61
        by_cases c62 : x11_1 ≤ (y195.length : Int)
        ·rw [if_pos c62] at H
         have c62b0 := eq_true c62
         have c62b1 : decide (x11_1 ≤ (y195.length : Int)) = true := decide_eq_true c62
         clear c62
         obtain ⟨y220, hy220⟩ : ∃ y_ : List (S108), y_ = (y195.take (x11_1 : Int).toNat) := ⟨_, rfl⟩
         replace H : (if y217.length + y220.length < 4398046511104 then ((some (y217 ++ y220 : List (S108))).bind fun y224 => (if 0 ≤ (wrap64 (x11_1 + 1)) then (if (wrap64 (x11_1 + 1)) ≤ (y195.length : Int) then ((some (y195.drop ((wrap64 (x11_1 + 1)) : Int).toNat : List (S108))).bind fun y227 => (if y224.length + y227.length < 4398046511104 then (impl_SendNotice.j1 k1 l0_0 (y224 ++ y227)) else (none))) else (none)) else (none))) else (none)) = some (r1, r2) := by first | (rw [hy220]; with_reducible exact H) | (have H2_ := (Option.bind_some _ _).symm.trans H; rw [hy220]; with_reducible exact H2_) | (have H2_ := (Option.bind_some _ _).symm.trans H; with_reducible exact H2_) | with_reducible exact H | (rw [hy220]; exact H) | exact H
         have Ny220 := Aside0.mk hy220
         clear hy220
         by_cases c63 : y217.length + y220.length < 4398046511104
         ·rw [if_pos c63] at H
          have LMc63 := Aside0.mk c63
          clear c63
          obtain ⟨y224, hy224⟩ : ∃ y_ : List (S108), y_ = (y217 ++ y220) := ⟨_, rfl⟩
          replace H : (if 0 ≤ (wrap64 (x11_1 + 1)) then (if (wrap64 (x11_1 + 1)) ≤ (y195.length : Int) then ((some (y195.drop ((wrap64 (x11_1 + 1)) : Int).toNat : List (S108))).bind fun y227 => (if y224.length + y227.length < 4398046511104 then (impl_SendNotice.j1 k1 l0_0 (y224 ++ y227)) else (none))) else (none)) else (none)) = some (r1, r2) := by first | (rw [hy224]; with_reducible exact H) | (have H2_ := (Option.bind_some _ _).symm.trans H; rw [hy224]; with_reducible exact H2_) | (have H2_ := (Option.bind_some _ _).symm.trans H; with_reducible exact H2_) | with_reducible exact H | (rw [hy224]; exact H) | exact H
          have Ny224 := Aside0.mk hy224
          clear hy224
          obtain ⟨ji64, hji64⟩ : ∃ j_ : Int, (wrap64 (x11_1 + 1)) = j_ := ⟨_, rfl⟩
          replace H : (if 0 ≤ (ji64) then (if (ji64) ≤ (y195.length : Int) then ((some (y195.drop ((ji64) : Int).toNat : List (S108))).bind fun y227 => (if y224.length + y227.length < 4398046511104 then (impl_SendNotice.j1 k1 l0_0 (y224 ++ y227)) else (none))) else (none)) else (none)) = some (r1, r2) := by first | (rw [hji64] at H; exact H) | (simp only [hji64] at H ⊢; exact H)
          have hji64w : (IntKind.i64.wrap (x11_1 + 1)) = ji64 := (i64_w _).trans hji64
          by_cases c65 : 0 ≤ (ji64)
          ·rw [if_pos c65] at H
           have c65b0 := eq_true c65
           have c65b1 : decide (0 ≤ (ji64)) = true := decide_eq_true c65
           clear c65
           by_cases c66 : (ji64) ≤ (y195.length : Int)
           ·rw [if_pos c66] at H
            have c66b0 := eq_true c66
            have c66b1 : decide ((ji64) ≤ (y195.length : Int)) = true := decide_eq_true c66
            clear c66
            obtain ⟨y227, hy227⟩ : ∃ y_ : List (S108), y_ = (y195.drop ((ji64) : Int).toNat) := ⟨_, rfl⟩
            replace H : (if y224.length + y227.length < 4398046511104 then (impl_SendNotice.j1 k1 l0_0 (y224 ++ y227)) else (none)) = some (r1, r2) := by first | (rw [hy227]; with_reducible exact H) | (have H2_ := (Option.bind_some _ _).symm.trans H; rw [hy227]; with_reducible exact H2_) | (have H2_ := (Option.bind_some _ _).symm.trans H; with_reducible exact H2_) | with_reducible exact H | (rw [hy227]; exact H) | exact H
            have Ny227 := Aside0.mk hy227
            clear hy227
            by_cases c67 : y224.length + y227.length < 4398046511104
            ·rw [if_pos c67] at H
             have LMc67 := Aside0.mk c67
             clear c67
             obtain ⟨y231, hy231⟩ : ∃ y_ : List (S108), y_ = (y224 ++ y227) := ⟨_, rfl⟩
             replace H : (impl_SendNotice.j1 k1 l0_0 y231) = some (r1, r2) := by first | (rw [hy231]; with_reducible exact H) | (have H2_ := (Option.bind_some _ _).symm.trans H; rw [hy231]; with_reducible exact H2_) | (have H2_ := (Option.bind_some _ _).symm.trans H; with_reducible exact H2_) | with_reducible exact H | (rw [hy231]; exact H) | exact H
             have Ny231 := Aside0.mk hy231
             clear hy231
             have H' := Aside0.mk H
             clear H
             try go_wp2
             replace HO_195000 := Aside0.mk (Kd.R_drew HO_195000.out)
             replace BK185 := Aside0.mk (blk_drew BK185.out)
             replace BK186 := Aside0.mk (blk_drew BK186.out)
             replace BK194 := Aside0.mk (blk_drew BK194.out)
             replace HB := Aside0.mk (below_drew1 HB.out)
             have q69 : (x11_1 : Int) ≤ ((y195.length : Int) : Int) := of_decide_eq_true tA
             obtain ⟨i069, hi069, _, hsz69, _⟩ := info_parts info108
             have hroom69 : y195.length ≤ co23 := (Kd.R_reads' HO_195000.out).2.1
             have hC69 : Kd.C k108 _ Ao23 y195.length y195 := (Kd.R_reads' HO_195000.out).2.2
             have hcut69 := cut_to (P := Try.prog) 63 108 .i64 Try.underlying63 hi069 Ao23 y195.length co23 x11_1 (of_decide_eq_true tA) q69 hroom69
             have hr69 := Kd.C_take (m := (x11_1 : Int).toNat) hC69 (by omega)
             have hy69 : y220.length = (x11_1 : Int).toNat := (by rw [Ny220.out, List.length_take]; omega)
             rw [← Ny220.out] at hr69
             rw [← hy69] at hcut69
             have HR223 := Aside0.mk hr69
             have HC223 := Aside0.mk (show y220.length ≤ co23 from by omega)
             clear hr69 hC69 hroom69 hi069 hsz69
             have KY69 := Aside0.mk hy69
             clear hy69
             have KL69 := Aside0.mk (show (x11_1 : Int).toNat ≤ y195.length from by omega)
             replace q69 := eq_true q69
             have q70 : ((ji64) : Int) ≤ ((y195.length : Int) : Int) := of_decide_eq_true tA
             obtain ⟨i070, hi070, _, hsz70, _⟩ := info_parts info108
             have hroom70 : y195.length ≤ co23 := (Kd.R_reads' HO_195000.out).2.1
             have hC70 : Kd.C k108 _ Ao23 y195.length y195 := (Kd.R_reads' HO_195000.out).2.2
             have q070 : (0 : Int) ≤ ((ji64) : Int) := of_decide_eq_true tA
             have hcut70 := cut_from (P := Try.prog) 63 108 .i64 Try.underlying63 hi070 4 hsz70 Ao23 y195.length co23 (ji64) q070 q70
             have hr70 := Kd.C_drop (m := ((ji64) : Int).toNat) (c := co23) hC70 (by omega) hroom70
             obtain ⟨A70, hA70⟩ : ∃ A1, A1 = (if co23 = ((ji64) : Int).toNat then Ao23 else (Ao23 : Option Addr).map (·.add (((ji64) : Int).toNat * 4))) := ⟨_, rfl⟩
             obtain ⟨c70, hc70⟩ : ∃ c1, c1 = co23 - ((ji64) : Int).toNat := ⟨_, rfl⟩
             have hy70 : y227.length = y195.length - ((ji64) : Int).toNat := (by rw [Ny227.out, List.length_drop] <;> omega)
             rw [show (y195).drop ((ji64) : Int).toNat = y227 from Ny227.out.symm] at hr70
             replace hr70 : Kd.C k108 _ A70 y227.length y227 := (by rw [hA70]; exact hr70)
             rw [← hy70, ← hA70, ← hc70] at hcut70
             have HR230 := Aside0.mk hr70
             have HC230 := Aside0.mk (show y227.length ≤ c70 from by rw [hy70, hc70]; exact Nat.sub_le_sub_right hroom70 _)
             clear hr70 hC70 hroom70 hi070 hsz70 hc70
             have KY70 := Aside0.mk hy70
             have KA70 := Aside0.mk hA70
             clear hy70 hA70
             have KL70 := Aside0.mk (show ((ji64) : Int).toNat ≤ y195.length from by omega)
             replace q70 := eq_true q70
             refine start_ (n := 14) (S := fun w' => w'.cell? ⟨gb194, 0, none⟩ = some (.slice Ao23 y195.length co23)) (ds := [13]) #[N_,N_,N_,N_,N_,N_,N_,N_,N_,N_,N_,N_,N_,N_] (by kernel_rfl) rfl rfl ((blk_cell BK194.out 0).trans rfl) (fun hHeld => ?_); refine with_tabW impl_SendNotice.tab13 impl_SendNotice.bits13 (fun HT_ HW_ => ?_)
             generalize wr.drew = w68 at HO_195000 BK185 BK186 BK194 HB HR223 HR230 hHeld ⊢
             refine pure_ (i := 1) (N := some 47) #[N_,Y_,N_,N_,N_,N_,N_,N_,N_,N_,N_,N_,N_,N_] rfl rfl (any_of HT_.out (by kernel_rfl)) (fun _ _ _ h => h) (Or.inl ⟨by rfl, tX⟩) tV ?_
             refine pure_ (i := 3) (N := some 49) #[N_,Y_,N_,Y_,N_,N_,N_,N_,N_,N_,N_,N_,N_,N_] rfl rfl (any_of HT_.out (by kernel_rfl)) (fun _ _ _ h => h) (Or.inl ⟨by rfl, tX⟩) tV ?_
             refine pure_ (i := 6) (N := some 52) #[N_,Y_,N_,Y_,N_,N_,Y_,N_,N_,N_,N_,N_,N_,N_] rfl rfl (any_of HT_.out (by kernel_rfl)) (fun _ _ _ h => h) (Or.inl ⟨by rfl, tX⟩) tV ?_
             refine pure_ (i := 8) (N := some 54) #[N_,Y_,N_,Y_,N_,N_,Y_,N_,Y_,N_,N_,N_,N_,N_] rfl rfl (any_of HT_.out (by kernel_rfl)) (fun _ _ _ h => h) (Or.inl ⟨by rfl, tX⟩) tV ?_
             refine pure_ (i := 9) (N := some 55) #[N_,Y_,N_,Y_,N_,N_,Y_,N_,Y_,Y_,N_,N_,N_,N_] rfl rfl (any_of HT_.out (by kernel_rfl)) (fun _ _ _ h => h) (Or.inl ⟨by rfl, tX⟩) tV ?_
             refine take_ (i := 2) (N := some 48) (v := ?_) (a' := ?_) #[N_,Y_,Y_,Y_,N_,N_,Y_,N_,Y_,Y_,N_,N_,N_,N_] rfl rfl (take_ofW HT_.out HW_.out (by kernel_rfl)) (fun _ _ _ h => h) (Or.inl ⟨by rfl, ?_⟩) hHeld ?_ ?_
             rotate_left
             ·intro w' s0
              go_simp
              with_reducible rfl
             rotate_left
             ·simp only [Act.put, List.setIfInBounds_toArray, List.set_cons_zero, List.set_cons_succ, i64_w, i32_w]
              rfl
             refine pure_ (i := 4) (N := some 50) #[N_,Y_,Y_,Y_,Y_,N_,Y_,N_,Y_,Y_,N_,N_,N_,N_] rfl rfl (any_of HT_.out (by kernel_rfl)) (fun _ _ _ h => h) (Or.inl ⟨by rfl, tX⟩) tV ?_
             refine take_ (i := 7) (N := some 53) (v := ?_) (a' := ?_) #[N_,Y_,Y_,Y_,Y_,N_,Y_,Y_,Y_,Y_,N_,N_,N_,N_] rfl rfl (take_ofW HT_.out HW_.out (by kernel_rfl)) (fun _ _ _ h => h) (Or.inl ⟨by rfl, ?_⟩) hHeld ?_ ?_
             rotate_left
             ·intro w' s0
              go_simp
              with_reducible rfl
             rotate_left
             ·simp only [Act.put, List.setIfInBounds_toArray, List.set_cons_zero, List.set_cons_succ, i64_w, i32_w]
              rfl
             refine pure_ (i := 10) (N := some 56) #[N_,Y_,Y_,Y_,Y_,N_,Y_,Y_,Y_,Y_,Y_,N_,N_,N_] rfl rfl (any_of HT_.out (by kernel_rfl)) (fun _ _ _ h => h) (Or.inl ⟨by rfl, tX⟩) tV ?_
             refine one_ (i := 0) (N := some 46) #[Y_,Y_,Y_,Y_,Y_,N_,Y_,Y_,Y_,Y_,Y_,N_,N_,N_] rfl rfl (one_of HT_.out (by kernel_rfl)) (by decide) (fun K hK => ?_)
             refine Kd.R_lit_step k108 _ 108 ?hg (N := 46) ?hd (xs := ([] : List (S108))) (inner := []) (ok := fun _ => True) (okp := fun _ => True) ?hr ?hp (fun _ hk => hk) trivial (Below.refl _ _) (Nat.le_refl _) (by simp) ?_; (case hd => rfl); (case hg => rfl); (case hr => exact tG); (case hp => exact (Reps.none _ _))
             intro v218 w71 ho72 hb hg_ hnew_
             clear hg_ hnew_
             (first | rw [← Ny217.out] at ho72 | (simp only [Int.reduceToNat] at ho72; rw [← Ny217.out] at ho72))
             have HO219 := Aside0.mk (Kd.R_lower (Kd.R_new' ho72 (Kd.R_lt (tR HO_195000))) (below_size tB))
             replace HO_195000 := Aside0.mk (Kd.R_elder' (tR HO_195000) (Kd.R_base ho72) hb)
             replace BK185 := bB BK185 hb
             replace BK186 := bB BK186 hb
             replace BK194 := bB BK194 hb
             replace HR223 := Aside0.mk (Kd.C_below (by repeat (first | (with_reducible exact HR223.out) | (with_reducible refine Kd.C_alloc ?_ _) | (with_reducible refine Kd.C_drewN ?_ _) | (with_reducible refine Kd.C_drew ?_) | exact HR223.out)) hb)
             replace HR230 := Aside0.mk (Kd.C_below (by repeat (first | (with_reducible exact HR230.out) | (with_reducible refine Kd.C_alloc ?_ _) | (with_reducible refine Kd.C_drewN ?_ _) | (with_reducible refine Kd.C_drew ?_) | exact HR230.out)) hb)
             replace HB := bH HB hb
             clear hb ho72
             refine hK.out _ _ ((blk_cell BK194.out 0).trans rfl) (fun hHeld => ?_)
             clear hK K
             refine norm_ (tV : Act.put _ (some 46) _ = _) ?_
             refine one_ (i := 5) (N := some 51) #[Y_,Y_,Y_,Y_,Y_,Y_,Y_,Y_,Y_,Y_,Y_,N_,N_,N_] rfl rfl (one_of HT_.out (by kernel_rfl)) (by decide) (fun K hK => ?_)
             refine Kd.R_append_rows_step k108 (w0 := w) w.heap.size (by rfl) (.tmp 46) (.tmp 50) 63 108 (.agg #[(.int .i64 0), (.int .i64 0), (.int .i64 0), (.bool false)]) 32 rfl Try.underlying63 info108 rfl (by decide) (by omega) v218 y217 y220 _ _ _ (fun k_ => some k_ ≠ (.slice Ao23 y195.length co23 : Value).ownBlock) (fun _ => False) rfl rfl ?aO ?aR (fun _ _ h => h) (fun _ h => h.elim) ?aF ?aB ?aS ?aL ?_
             (case aR => repeat (first | exact (by repeat (first | (with_reducible exact HR223.out) | (with_reducible refine Kd.C_alloc ?_ _) | (with_reducible refine Kd.C_drewN ?_ _) | (with_reducible refine Kd.C_drew ?_) | exact HR223.out)) | (with_reducible refine Kd.C_alloc ?_ _) | (with_reducible refine Kd.C_drewN ?_ _) | (with_reducible refine Kd.C_drew ?_)))
             (case aB => exact tB)
             (case aF => exact (fun k_ hk => Kd.fresh' (Kd.R_lt (tR HO_195000)) k_ hk))
             (case aO => exact (by (with_reducible repeat (first | apply Kd.R_alloc | apply Kd.R_drewN | apply Kd.R_drew)); exact Kd.R_mono HO219.out (fun _ hk => hk.2)))
             (case aS => exact (below_size tB))
             (case aL => have := LMc63.out; omega)
             intro v225 w73 ho hb hg hat
             rw [← Ny224.out] at ho
             replace BK185 := Aside0.mk (blk_grown (g := gb185) (o := .cells #[.slice A0_0 l0_0.length c0_0] 65 (0, 0)) (tK BK185) hg (Kd.R_ne HO219.out BK185.out (by decide)))
             replace BK186 := Aside0.mk (blk_grown (g := gb186) (o := .cells #[.slice none 0 0] 65 (0, 0)) (tK BK186) hg (Kd.R_ne HO219.out BK186.out (by decide)))
             replace BK194 := Aside0.mk (blk_grown (g := gb194) (o := .cells #[.slice Ao23 y195.length co23] 65 (0, 0)) (tK BK194) hg (Kd.R_ne HO219.out BK194.out (by decide)))
             replace HB := Aside0.mk (hb)
             replace HR223 := Aside0.mk ((show Kd.C k108 w73 Ao23 y220.length y220 from by rw [Ny220.out]; exact Kd.C_take (m := (x11_1 : Int).toNat) ((Kd.R_reads' (Kd.R_after (ok := (fun _ => True)) (tR HO_195000) hg hat)).2.2) KL69.out))
             replace HR230 := Aside0.mk ((show Kd.C k108 w73 A70 y227.length y227 from by rw [Ny227.out, KA70.out]; exact Kd.C_drop (m := ((ji64) : Int).toNat) (c := co23) ((Kd.R_reads' (Kd.R_after (ok := (fun _ => True)) (tR HO_195000) hg hat)).2.2) KL70.out ((Kd.R_reads' (Kd.R_after (ok := (fun _ => True)) (tR HO_195000) hg hat)).2.1)))
             replace HO_195000 := Aside0.mk (Kd.R_after (ok := (fun _ => True)) (tR HO_195000) hg hat)
             have HO226 := Aside0.mk (ho)
             clear HO219
             clear ho hb hg hat
             refine hK.out _ _ ((blk_cell BK194.out 0).trans rfl) (fun hHeld => ?_)
             clear hK K
             refine norm_ (tV : Act.put _ (some 51) _ = _) ?_
             refine one_ (i := 11) (N := some 57) #[Y_,Y_,Y_,Y_,Y_,Y_,Y_,Y_,Y_,Y_,Y_,Y_,N_,N_] rfl rfl (one_of HT_.out (by kernel_rfl)) (by decide) (fun K hK => ?_)
             refine Kd.R_append_rows_step k108 (w0 := w) w.heap.size (by rfl) (.tmp 51) (.tmp 56) 63 108 (.agg #[(.int .i64 0), (.int .i64 0), (.int .i64 0), (.bool false)]) 32 rfl Try.underlying63 info108 rfl (by decide) (by omega) v225 y224 y227 _ _ _ (fun k_ => some k_ ≠ (.slice Ao23 y195.length co23 : Value).ownBlock) (fun _ => False) rfl rfl ?aO ?aR (fun _ _ h => h) (fun _ h => h.elim) ?aF ?aB ?aS ?aL ?_
             (case aR => repeat (first | exact (by repeat (first | (with_reducible exact HR230.out) | (with_reducible refine Kd.C_alloc ?_ _) | (with_reducible refine Kd.C_drewN ?_ _) | (with_reducible refine Kd.C_drew ?_) | exact HR230.out)) | (with_reducible refine Kd.C_alloc ?_ _) | (with_reducible refine Kd.C_drewN ?_ _) | (with_reducible refine Kd.C_drew ?_)))
             (case aB => exact tB)
             (case aF => exact (fun k_ hk => Kd.fresh' (Kd.R_lt (tR HO_195000)) k_ hk))
             (case aO => exact (tR HO226))
             (case aS => exact (below_size tB))
             (case aL => have := LMc67.out; omega)
             intro v232 w74 ho hb hg hat
             rw [← Ny231.out] at ho
             replace BK185 := Aside0.mk (blk_grown (g := gb185) (o := .cells #[.slice A0_0 l0_0.length c0_0] 65 (0, 0)) (tK BK185) hg (Kd.R_ne HO226.out BK185.out (by decide)))
             replace BK186 := Aside0.mk (blk_grown (g := gb186) (o := .cells #[.slice none 0 0] 65 (0, 0)) (tK BK186) hg (Kd.R_ne HO226.out BK186.out (by decide)))
             replace BK194 := Aside0.mk (blk_grown (g := gb194) (o := .cells #[.slice Ao23 y195.length co23] 65 (0, 0)) (tK BK194) hg (Kd.R_ne HO226.out BK194.out (by decide)))
             replace HB := Aside0.mk (hb)
             replace HR223 := Aside0.mk ((show Kd.C k108 w74 Ao23 y220.length y220 from by rw [Ny220.out]; exact Kd.C_take (m := (x11_1 : Int).toNat) ((Kd.R_reads' (Kd.R_after (ok := (fun _ => True)) (tR HO_195000) hg hat)).2.2) KL69.out))
             replace HR230 := Aside0.mk ((show Kd.C k108 w74 A70 y227.length y227 from by rw [Ny227.out, KA70.out]; exact Kd.C_drop (m := ((ji64) : Int).toNat) (c := co23) ((Kd.R_reads' (Kd.R_after (ok := (fun _ => True)) (tR HO_195000) hg hat)).2.2) KL70.out ((Kd.R_reads' (Kd.R_after (ok := (fun _ => True)) (tR HO_195000) hg hat)).2.1)))
             replace HO_195000 := Aside0.mk (Kd.R_after (ok := (fun _ => True)) (tR HO_195000) hg hat)
             have HO233 := Aside0.mk (ho)
             clear HO226
             clear ho hb hg hat
             obtain ⟨Ao75, co75, eo75⟩ := Kd.R_slice HO233.out
             (first | subst eo75 | (injection eo75 with f1_ f2_ f3_; have f4_ := f1_.symm; have f5_ := f3_.symm; clear f1_ f2_ f3_; subst f4_; subst f5_))
             refine hK.out _ _ ((blk_cell BK194.out 0).trans rfl) (fun hHeld => ?_)
             clear hK K
             refine norm_ (tV : Act.put _ (some 57) _ = _) ?_
             refine pure_ (i := 12) (N := some 58) #[Y_,Y_,Y_,Y_,Y_,Y_,Y_,Y_,Y_,Y_,Y_,Y_,Y_,N_] rfl rfl (any_of HT_.out (by kernel_rfl)) (fun _ _ _ h => h) (Or.inl ⟨by rfl, tX⟩) tV ?_
             refine last_ (i := 13) (N := none) #[Y_,Y_,Y_,Y_,Y_,Y_,Y_,Y_,Y_,Y_,Y_,Y_,Y_,Y_] rfl rfl (one_of HT_.out (by kernel_rfl)) (by decide) (fun K hK => ?_)
             have hs76 : w74.cell? ⟨gb194, 0, none⟩ = some (.slice Ao23 y195.length co23) := (blk_cell BK194.out 0).trans rfl
             have hfs76 := blk_frozen BK194.out 0
             have hns76_0 := NB185_194.out
             have hns76_1 := NB186_194.out
             have hms76_0 := NB194_185.out
             have hms76_1 := NB194_186.out
             refine skip_ (w1 := ?_) (by rfl) rfl ?_ ?_
             rotate_left
             ·go_simp
              rfl
             refine hK.out _ _ ?_
             clear hK K
             refine done_ (done_of HT_.out (by kernel_rfl)) ?_
             try go_wp2
             go_meet
             case rel => exact ⟨_, (y231), (.slice Ao75 y231.length co75), H', ⟨by have := HK1.out; first | omega | exact Nat.le_refl _⟩, ⟨by (with_reducible repeat (first | apply Kd.R_alloc | apply Kd.R_drewN | apply Kd.R_drew)); exact Kd.R_mono (Kd.R_far (p := ⟨gb194, 0, none⟩) (Kd.R_types HO233.out BK194.out (by decide)) (fun _ hk => hk.2) (.slice Ao75 y231.length co75)) (fun _ hk => trivial)⟩, ⟨kF NB185_194 BK185⟩, ⟨kF NB186_194 BK186⟩, ⟨by (with_reducible repeat (first | refine blk_drewN ?_ _ | refine blk_drew ?_ | refine blk_alloc ?_ _)); refine blk_put (cs := #[.slice Ao23 y195.length co23]) ?_ 0 _ rfl; (with_reducible repeat (first | refine blk_drewN ?_ _ | refine blk_drew ?_ | refine blk_alloc ?_ _)); exact BK194.out⟩, ⟨tB⟩⟩
            rw [if_neg c67] at H
            exact absurd H (by simp)
           rw [if_neg c66] at H
           exact absurd H (by simp)
          rw [if_neg c65] at H
          exact absurd H (by simp)
         rw [if_neg c63] at H
         exact absurd H (by simp)
        rw [if_neg c62] at H
        exact absurd H (by simp)
       rw [if_neg c61] at H
       exact absurd H (by simp)
    rw [if_neg c25] at H
    have c25b0 : decide (30 < (y195.length : Int)) = false := decide_eq_false c25
    have c25b1 : decide (30 < y195.length) = false := decide_eq_false (by omega)
    clear c25
    (first | rw [c25b0] | (simp only [i64_w, i32_w]; rw [c25b0]) | skip)
    have H' := Aside0.mk H
    clear H
    go_wp2
    go_meet
    case rel => exact ⟨_, (y195), (.slice Ao23 y195.length co23), H', ⟨by first | omega | exact Nat.le_refl _⟩, ⟨by (with_reducible repeat (first | apply Kd.R_alloc | apply Kd.R_drewN | apply Kd.R_drew)); exact Kd.R_mono (Kd.R_far (p := ⟨gb194, 0, none⟩) (Kd.R_types HO197.out BK194.out (by decide)) (fun _ hk => hk.2) (.slice Ao23 y195.length co23)) (fun _ hk => trivial)⟩, ⟨kF NB185_194 BK185⟩, ⟨kF NB186_194 BK186⟩, ⟨by (with_reducible repeat (first | refine blk_drewN ?_ _ | refine blk_drew ?_ | refine blk_alloc ?_ _)); refine blk_put (cs := #[.slice Ao18 t191.length co18]) ?_ 0 _ rfl; (with_reducible repeat (first | refine blk_drewN ?_ _ | refine blk_drew ?_ | refine blk_alloc ?_ _)); exact BK194.out⟩, ⟨tB⟩⟩
   case rest =>
    clear HC9
    try clear c1
    try clear p1
    try clear q1
    try clear hx1
    try clear c2
    try clear p2
    try clear c3
    try clear q3
    try clear c4
    try clear c5
    try clear c6
    try clear p6
    try clear q6
    try clear c7
    try clear q7
    try clear p19
    try clear q19
    try clear hx19
    try clear c25
    try clear c25b0
    try clear c25b1
    try clear c29
    try clear c29b0
    try clear c30
    try clear c31
    try clear q32
    try clear c33
    try clear c35
    try clear c36
    try clear c38
    try clear c39
    try clear c40
    try clear c57
    try clear c58
    try clear c59
    try clear c61
    try clear c61b0
    try clear c61b1
    try clear c62
    try clear c62b0
    try clear c62b1
    try clear c63
    try clear p64
    try clear c65
    try clear c65b0
    try clear c65b1
    try clear c66
    try clear c66b0
    try clear c66b1
    try clear c67
    try clear q69
    try clear c70
    try clear q70
    try clear hcz60_0
    try clear hcz60_1
    try clear hcz60_2
    try clear hcz60_3
    try clear hfz60_0
    try clear hfz60_1
    try clear hfz60_2
    try clear hfz60_3
    try clear hx198_0
    try clear hx198_1
    try clear hx198_2
    try clear hx198_3
    try clear p198
    try clear q070
    try clear q198
    try clear q69
    try clear q70
    obtain ⟨kq, x195000_8, u195000, HA, HJ8, HO_195000, BK185, BK186, BK194, HB⟩ := hcut
    cases kq with
    | zero => exact absurd HA.out (by simp [impl_SendNotice.j1])
    | succ kj8 =>
     have H := HA.out
     clear HA
     simp only [impl_SendNotice.j1] at H
     replace H := Option.bind_eq_some_iff.mp H
     obtain ⟨t234, A770, H⟩ := H
     try dsimp only at H
     have A77 := Aside0.mk A770
     clear A770
     by_cases c78 : t234 = true
     ·subst c78
      have H1 : (some (x195000_8, true)) = some (r1, r2) := by rw [if_pos rfl] at H; exact H
      clear H
      have H := H1
      clear H1
      simp only [Option.some.injEq, Prod.mk.injEq] at H
      obtain ⟨rfl, rfl⟩ := H
      have hnb79 := NB194_185.out
      have hnc79 := NB185_194.out
      have hnb80 := NB194_186.out
      have hnc80 := NB186_194.out
      obtain ⟨hcz81_0, hfz81_0⟩ := bc1 BK194.out
      obtain ⟨Ao82, co82, eo82⟩ := Kd.R_slice HO_195000.out
      subst eo82
      go_wp2_with (first | ((with_reducible refine gate_callee (f := 71) rfl ?_); refine goesL_ (some 60) rfl rfl Try.func71 (by kernel_rfl) rfl #[.agg #[.slice Ao82 x195000_8.length co82]] rfl tL ?_; (with_reducible refine (impl_IsValidMailbox.calls kj8 _ _ x195000_8 true _ ?side1 ?side2 A77.out).mono ?_); (case side1 => repeat (first | exact (Kd.R_reads' HO_195000.out).2.2 | (with_reducible refine Kd.C_alloc ?_ _) | (with_reducible refine Kd.C_drewN ?_ _) | (with_reducible refine Kd.C_drew ?_))); (case side2 => exact (Kd.R_reads' HO_195000.out).2.1); rintro e w83 ⟨rfl, hb⟩; refine ⟨_, rfl, ?_⟩; replace HO_195000 := Aside0.mk (Kd.R_below (tR HO_195000) hb); replace BK185 := bB BK185 hb; replace BK186 := bB BK186 hb; replace BK194 := bB BK194 hb; replace HB := bH HB hb; (try clear hb); (try clear hb2); (try clear hk); (try clear hi); obtain ⟨hcz84_0, hfz84_0⟩ := bc1 BK194.out; have hnb85 := NB186_185.out; have hnc85 := NB185_186.out; obtain ⟨hcz86_0, hfz86_0⟩ := bc1 BK186.out))
      refine bodyPost_ret (results_ct rfl _ _ gb186 65 #[.slice Ao82 x195000_8.length co82] (0, 0) _ rfl (by (with_reducible repeat (first | refine blk_drewN ?_ _ | refine blk_drew ?_ | refine blk_alloc ?_ _)); refine blk_put (cs := #[.slice none 0 0]) ?_ 0 _ rfl; (with_reducible repeat (first | refine blk_drewN ?_ _ | refine blk_drew ?_ | refine blk_alloc ?_ _)); exact BK186.out) Try.underlying65 rfl (by kernel_rfl)) rfl ?_
      exact ⟨_, tE, by (with_reducible repeat (first | apply Kd.R_alloc | apply Kd.R_drewN | apply Kd.R_drew)); exact Kd.R_mono (Kd.R_far (p := ⟨gb186, 0, none⟩) (Kd.R_types HO_195000.out BK186.out (by decide)) (fun _ hk => hk.2) (.slice Ao82 x195000_8.length co82)) (fun _ hk => trivial), tB⟩
     replace c78 := Bool.eq_false_iff.mpr c78
     subst c78
     have H1 : ((impl_copyMail.f l0_0).bind fun t235 => (some (t235, false))) = some (r1, r2) := by rw [if_neg (show ¬ (false = true) by decide)] at H; exact H
     clear H
     have H := H1
     clear H1
     replace H := Option.bind_eq_some_iff.mp H
     obtain ⟨t235, A870, H⟩ := H
     try dsimp only at H
     have A87 := Aside0.mk A870
     clear A870
     simp only [Option.some.injEq, Prod.mk.injEq] at H
     obtain ⟨rfl, rfl⟩ := H
     have hnb88 := NB194_185.out
     have hnc88 := NB185_194.out
     have hnb89 := NB194_186.out
     have hnc89 := NB186_194.out
     obtain ⟨hcz90_0, hfz90_0⟩ := bc1 BK194.out
     obtain ⟨Ao91, co91, eo91⟩ := Kd.R_slice HO_195000.out
     subst eo91
     go_wp2_with (first | ((with_reducible refine gate_callee (f := 71) rfl ?_); refine goesL_ (some 60) rfl rfl Try.func71 (by kernel_rfl) rfl #[.agg #[.slice Ao91 x195000_8.length co91]] rfl tL ?_; (with_reducible refine (impl_IsValidMailbox.calls kj8 _ _ x195000_8 false _ ?side1 ?side2 A77.out).mono ?_); (case side1 => repeat (first | exact (Kd.R_reads' HO_195000.out).2.2 | (with_reducible refine Kd.C_alloc ?_ _) | (with_reducible refine Kd.C_drewN ?_ _) | (with_reducible refine Kd.C_drew ?_))); (case side2 => exact (Kd.R_reads' HO_195000.out).2.1); rintro e w92 ⟨rfl, hb⟩; refine ⟨_, rfl, ?_⟩; replace HO_195000 := Aside0.mk (Kd.R_below (tR HO_195000) hb); replace BK185 := bB BK185 hb; replace BK186 := bB BK186 hb; replace BK194 := bB BK194 hb; replace HB := bH HB hb; (try clear hb); (try clear hb2); (try clear hk); (try clear hi); have hnb93 := NB185_186.out; have hnc93 := NB186_185.out; obtain ⟨hcz94_0, hfz94_0⟩ := bc1 BK185.out) | ((with_reducible refine gate_callee (f := 95) rfl ?_); refine goesL_ (some 63) rfl rfl Try.func95 (by kernel_rfl) rfl #[.agg #[.slice A0_0 l0_0.length c0_0]] rfl tL ?_; (with_reducible refine (impl_copyMail.calls _ _ l0_0 t235 _ ?side1 ?side2 A87.out).mono ?_); (case side1 => repeat (first | exact (Kd.C_below HR0_0.out HB.out) | (with_reducible refine Kd.C_alloc ?_ _) | (with_reducible refine Kd.C_drewN ?_ _) | (with_reducible refine Kd.C_drew ?_))); (case side2 => exact HC0_0.out); rintro e w95 ⟨v236, rfl, ho0, hb⟩; refine ⟨_, rfl, ?_⟩; have HO237 := Aside0.mk (Kd.R_lower (Kd.R_new' ho0 (Kd.R_lt (tR HO_195000))) (below_size tB)); replace HO_195000 := Aside0.mk (Kd.R_elder' (tR HO_195000) (Kd.R_base ho0) hb); replace BK185 := bB BK185 hb; replace BK186 := bB BK186 hb; replace BK194 := bB BK194 hb; replace HB := bH HB hb; (try clear hb); (try clear hb2); (try clear hk); (try clear hi); (try clear ho0); obtain ⟨Ao96, co96, eo96⟩ := Kd.R_slice HO237.out; subst eo96; obtain ⟨hcz97_0, hfz97_0⟩ := bc1 BK186.out))
     refine bodyPost_ret (results_ct rfl _ _ gb186 65 #[.slice Ao96 t235.length co96] (0, 0) _ rfl (by (with_reducible repeat (first | refine blk_drewN ?_ _ | refine blk_drew ?_ | refine blk_alloc ?_ _)); refine blk_put (cs := #[.slice none 0 0]) ?_ 0 _ rfl; (with_reducible repeat (first | refine blk_drewN ?_ _ | refine blk_drew ?_ | refine blk_alloc ?_ _)); exact BK186.out) Try.underlying65 rfl (by kernel_rfl)) rfl ?_
     exact ⟨_, tE, by (with_reducible repeat (first | apply Kd.R_alloc | apply Kd.R_drewN | apply Kd.R_drew)); exact Kd.R_mono (Kd.R_far (p := ⟨gb186, 0, none⟩) (Kd.R_types HO237.out BK186.out (by decide)) (fun _ hk => hk.2) (.slice Ao96 t235.length co96)) (fun _ hk => trivial), tB⟩
  rw [if_neg c8] at H
  exact absurd H (by simp)
 replace c6 := Bool.eq_false_iff.mpr c6
 subst c6
 have H1 : ((impl_copyMail.f l0_0).bind fun t188 => (some (t188, false))) = some (r1, r2) := by rw [if_neg (show ¬ (false = true) by decide)] at H; exact H
 clear H
 have H := H1
 clear H1
 replace H := Option.bind_eq_some_iff.mp H
 obtain ⟨t188, A980, H⟩ := H
 try dsimp only at H
 have A98 := Aside0.mk A980
 clear A980
 simp only [Option.some.injEq, Prod.mk.injEq] at H
 obtain ⟨rfl, rfl⟩ := H
 go_enter Try.func58, Try.ntmps58
 go_wp2_with (first | ((with_reducible refine gate_dst (N := 4) rfl ?_); refine box_event ?hg (N := 4) ?hd (cs := #[.slice A0_0 l0_0.length c0_0]) (t := 65) ?hr ?_; (case hd => rfl); (case hg => rfl); (case hr => exact tG); intro gb185 hg w99 hbox hb; have BK185 := Aside0.mk (hbox); have GW185 := gW HB hg; have GE185 := gW HB hg; replace HB := bH HB hb; clear hb hbox hg) | ((with_reducible refine gate_dst (N := 8) rfl ?_); refine box_event ?hg (N := 8) ?hd (cs := #[.slice none 0 0]) (t := 65) ?hr ?_; (case hd => rfl); (case hg => rfl); (case hr => exact tG); intro gb186 hg w100 hbox hb; have BK186 := Aside0.mk (hbox); have GW186 := gW HB hg; have GE186 := gW HB hg; replace HB := bH HB hb; have NB185_186 := nL BK185 hg; have NB186_185 := nR BK185 hg; replace BK185 := bB BK185 hb; clear hb hbox hg; have hnb101 := NB185_186.out; have hnc101 := NB186_185.out; obtain ⟨hcz102_0, hfz102_0⟩ := bc1 BK185.out) | ((with_reducible refine gate_callee (f := 71) rfl ?_); refine goesL_ (some 15) rfl rfl Try.func71 (by kernel_rfl) rfl #[.agg #[.slice A0_0 l0_0.length c0_0]] rfl tL ?_; (with_reducible refine (impl_IsValidMailbox.calls k _ _ l0_0 false _ ?side1 ?side2 A5.out).mono ?_); (case side1 => repeat (first | exact (Kd.C_below HR0_0.out HB.out) | (with_reducible refine Kd.C_alloc ?_ _) | (with_reducible refine Kd.C_drewN ?_ _) | (with_reducible refine Kd.C_drew ?_))); (case side2 => exact HC0_0.out); rintro e w103 ⟨rfl, hb⟩; refine ⟨_, rfl, ?_⟩; replace BK185 := bB BK185 hb; replace BK186 := bB BK186 hb; replace HB := bH HB hb; (try clear hb); (try clear hb2); (try clear hk); (try clear hi); obtain ⟨hcz104_0, hfz104_0⟩ := bc1 BK185.out) | ((with_reducible refine gate_callee (f := 95) rfl ?_); refine goesL_ (some 18) rfl rfl Try.func95 (by kernel_rfl) rfl #[.agg #[.slice A0_0 l0_0.length c0_0]] rfl tL ?_; (with_reducible refine (impl_copyMail.calls _ _ l0_0 t188 _ ?side1 ?side2 A98.out).mono ?_); (case side1 => repeat (first | exact (Kd.C_below HR0_0.out HB.out) | (with_reducible refine Kd.C_alloc ?_ _) | (with_reducible refine Kd.C_drewN ?_ _) | (with_reducible refine Kd.C_drew ?_))); (case side2 => exact HC0_0.out); rintro e w105 ⟨v189, rfl, ho0, hb⟩; refine ⟨_, rfl, ?_⟩; have HO190 := Aside0.mk (Kd.R_lower ho0 (below_size tB)); replace BK185 := bB BK185 hb; replace BK186 := bB BK186 hb; replace HB := bH HB hb; (try clear hb); (try clear hb2); (try clear hk); (try clear hi); (try clear ho0); obtain ⟨Ao106, co106, eo106⟩ := Kd.R_slice HO190.out; subst eo106; obtain ⟨hcz107_0, hfz107_0⟩ := bc1 BK186.out))
 refine bodyPost_ret (results_ct rfl _ _ gb186 65 #[.slice Ao106 t188.length co106] (0, 0) _ rfl (by (with_reducible repeat (first | refine blk_drewN ?_ _ | refine blk_drew ?_ | refine blk_alloc ?_ _)); refine blk_put (cs := #[.slice none 0 0]) ?_ 0 _ rfl; (with_reducible repeat (first | refine blk_drewN ?_ _ | refine blk_drew ?_ | refine blk_alloc ?_ _)); exact BK186.out) Try.underlying65 rfl (by kernel_rfl)) rfl ?_
 exact ⟨_, tE, by (with_reducible repeat (first | apply Kd.R_alloc | apply Kd.R_drewN | apply Kd.R_drew)); exact Kd.R_mono (Kd.R_far (p := ⟨gb186, 0, none⟩) (Kd.R_types HO190.out BK186.out (by decide)) (fun _ hk => hk.2) (.slice Ao106 t188.length co106)) (fun _ hk => trivial), tB⟩

end Go.Proofs.Ytanoaneoanpkkaa.ZFnNotices
