/- The machine side: for each Go function a Lean function and the contract that the Go code answers as it does; printed by program (wip/tmpl/pprint.sh). -/
import Derived.Test.YtanoaneoanpkkaaZFnNoticesx0
import Derived.Test.YtanoaneoanpkkaaZFnNoticesx2
namespace Go.Proofs.Ytanoaneoanpkkaa.ZFnNotices
open Go.RowKit Go.Proofs.YtanoaneoanpkkaaW.PrintWords Go.Proofs.YtanoaneoanpkkaaW.PrintLast Go.Proofs.YtanoaneoanpkkaaW.PrintMore
attribute [local go_sem] max2_int min2_int max_two min_two max_three min_three max_four min_four   -- for this text's walks alone
set_option linter.unusedVariables false
set_option linter.unusedSimpArgs false

/-- A state of type 159 at block g of W; what its slices lead to came in by w0. -/
def IsS159 (w0 W : World) (g : Nat) (f0 : List Int) (f1 : Int) (f2 : Int) : Prop := ∃ A0 c0, W.heap[g]? = some (.cells #[.slice A0 f0.length c0, .int .i64 f1, .int .i64 f2] 159 (0, 0)) ∧ w0.heap.size ≤ g ∧ Kd.C (Kd.int .u8) w0 A0 f0.length f0
theorem IsS159.grown {w0 W : World} {g : Nat} {f0 : List Int} {f1 : Int} {f2 : Int} {W1 : World} {row : Option Nat} (h : IsS159 w0 W g f0 f1 f2) (hw : W.grownBy W1 row) (hne : some g ≠ row) : IsS159 w0 W1 g f0 f1 f2 := by
 obtain ⟨A0, c0, hb, hg, hr0⟩ := h
 exact ⟨A0, c0, blk_grown hb hw hne, hg, hr0⟩
theorem IsS159.grown' {W0 : World} {w0 W : World} {g : Nat} {f0 : List Int} {f1 : Int} {f2 : Int} {W1 : World} {row : Option Nat} (a : Aside0 (IsS159 w0 W0 g f0 f1 f2)) (hw : W.grownBy W1 row) (hne : some g ≠ row) (h : IsS159 w0 W0 g f0 f1 f2 → IsS159 w0 W g f0 f1 f2) : IsS159 w0 W1 g f0 f1 f2 := IsS159.grown (h a.out) hw hne
theorem IsS159.own_neN {w0 W : World} {g : Nat} {f0 : List Int} {f1 : Int} {f2 : Int} {α : Type} {d : Kd α} {e : Nat} {base : Nat} {ok : Nat → Prop} {v : Value} {xs : List α} (h : IsS159 w0 W g f0 f1 f2) (ho : Kd.N d e W base ok v xs) (ht : e ≠ 159) : some g ≠ v.ownBlock := by
 obtain ⟨A0, c0, hb, hg, hr0⟩ := h
 exact Kd.N_ne ho hb ht
theorem IsS159.fresh {w0 W : World} {g : Nat} {f0 : List Int} {f1 : Int} {f2 : Int} (h : IsS159 w0 W g f0 f1 f2) : ∀ k, W.heap.size ≤ k → k ≠ g := by
 obtain ⟨A0, c0, hb, hg, hr0⟩ := h
 exact Kd.freshB hb
theorem IsS159.kept {w0 W : World} {g : Nat} {f0 : List Int} {f1 : Int} {f2 : Int} {W1 : World} {S : Nat → Prop} (h : IsS159 w0 W g f0 f1 f2) (hk : Kept W W1 S) (hne : ¬ S g) : IsS159 w0 W1 g f0 f1 f2 := by
 obtain ⟨A0, c0, hb, hg, hr0⟩ := h
 exact ⟨A0, c0, blk_kept hb hk hne, hg, hr0⟩
theorem IsS159.below {w0 W : World} {g : Nat} {f0 : List Int} {f1 : Int} {f2 : Int} {W1 : World} (h : IsS159 w0 W g f0 f1 f2) (hw : Below W.heap.size W W1) : IsS159 w0 W1 g f0 f1 f2 := h.grown (grown_of_below hw none) (by simp)
theorem IsS159.alloc {w0 W : World} {g : Nat} {f0 : List Int} {f1 : Int} {f2 : Int} (h : IsS159 w0 W g f0 f1 f2) (o : Obj) : IsS159 w0 (W.alloc o) g f0 f1 f2 := h.below (below_alloc (Below.refl _ _) o)
theorem IsS159.drewN {w0 W : World} {g : Nat} {f0 : List Int} {f1 : Int} {f2 : Int} (h : IsS159 w0 W g f0 f1 f2) (m : Nat) : IsS159 w0 (W.drewN m) g f0 f1 f2 := h
theorem IsS159.drew {w0 W : World} {g : Nat} {f0 : List Int} {f1 : Int} {f2 : Int} (h : IsS159 w0 W g f0 f1 f2) : IsS159 w0 W.drew g f0 f1 f2 := h
theorem IsS159.at_ {w0 W : World} {g : Nat} {f0 : List Int} {f1 : Int} {f2 : Int} {w' : World} {m : Nat} (hq : W.drewN m = w') (h : IsS159 w0 W g f0 f1 f2) : IsS159 w0 w' g f0 f1 f2 := by subst hq; exact IsS159.drewN h m
theorem IsS159.apart {w0 W : World} {g : Nat} {f0 : List Int} {f1 : Int} {f2 : Int} {α : Type} {d : Kd α} {e : Nat} {base : Nat} {ok : Nat → Prop} {v : Value} {xs : List α} (h : IsS159 w0 W g f0 f1 f2) (ho : d.R e W base ok v xs) (ht : ∀ q, q ∈ e :: d.E → q ≠ 159) : d.R e W base (fun k => ok k ∧ k ≠ g) v xs := by
 obtain ⟨A0, c0, hb, hg, hr0⟩ := h
 exact Kd.R_types ho hb ht
theorem IsS159.own_ne {w0 W : World} {g : Nat} {f0 : List Int} {f1 : Int} {f2 : Int} {α : Type} {d : Kd α} {e : Nat} {base : Nat} {ok : Nat → Prop} {v : Value} {xs : List α} (h : IsS159 w0 W g f0 f1 f2) (ho : d.R e W base ok v xs) (ht : e ≠ 159) : some g ≠ v.ownBlock := by
 obtain ⟨A0, c0, hb, hg, hr0⟩ := h
 exact Kd.R_ne ho hb ht
theorem IsS159.apartQ {w0 W : World} {g : Nat} {f0 : List Int} {f1 : Int} {f2 : Int} {α : Type} {d : Kd α} {e : Nat} {base : Nat} {ok : Nat → Prop} {v : Value} {xs : List α} (h : IsS159 w0 W g f0 f1 f2) (ho : d.Q e W base ok v xs) (ht : ∀ q, q ∈ e :: d.E → q ≠ 159) : d.Q e W base (fun k => ok k ∧ k ≠ g) v xs := by
 obtain ⟨A0, c0, hb, hg, hr0⟩ := h
 exact Kd.Q_types ho hb ht
theorem IsS159.own_neQ {w0 W : World} {g : Nat} {f0 : List Int} {f1 : Int} {f2 : Int} {α : Type} {d : Kd α} {e : Nat} {base : Nat} {ok : Nat → Prop} {v : Value} {xs : List α} (h : IsS159 w0 W g f0 f1 f2) (ho : d.Q e W base ok v xs) (ht : e ≠ 159) : some g ≠ v.ownBlock := by
 obtain ⟨A0, c0, hb, hg, hr0⟩ := h
 exact Kd.Q_ne ho hb ht
theorem IsS159.apartS {w0 W : World} {g : Nat} {f0 : List Int} {f1 : Int} {f2 : Int} {α : Type} {d : Kd α} {e : Nat} {base : Nat} {ok : Nat → Prop} {v : Value} {xs : List α} (h : IsS159 w0 W g f0 f1 f2) (ho : d.S e W base ok v xs) (ht : ∀ q, q ∈ e :: d.E → q ≠ 159) : d.S e W base (fun k => ok k ∧ k ≠ g) v xs := by
 obtain ⟨A0, c0, hb, hg, hr0⟩ := h
 exact Kd.S_types ho hb ht
theorem IsS159.own_neS {w0 W : World} {g : Nat} {f0 : List Int} {f1 : Int} {f2 : Int} {α : Type} {d : Kd α} {e : Nat} {base : Nat} {ok : Nat → Prop} {v : Value} {xs : List α} (h : IsS159 w0 W g f0 f1 f2) (ho : d.S e W base ok v xs) (ht : e ≠ 159) : some g ≠ v.ownBlock := by
 obtain ⟨A0, c0, hb, hg, hr0⟩ := h
 exact Kd.S_ne ho hb ht
theorem IsS159.lt {w0 W : World} {g : Nat} {f0 : List Int} {f1 : Int} {f2 : Int} (h : IsS159 w0 W g f0 f1 f2) : g < W.heap.size := by
 obtain ⟨A0, c0, hb, hg, hr0⟩ := h
 exact blk_lt hb
theorem IsS159.ge {w0 W : World} {g : Nat} {f0 : List Int} {f1 : Int} {f2 : Int} (h : IsS159 w0 W g f0 f1 f2) : w0.heap.size ≤ g := by
 obtain ⟨A0, c0, hb, hg, hr0⟩ := h
 exact hg
theorem IsS159.ne_blk {w0 W : World} {g : Nat} {f0 : List Int} {f1 : Int} {f2 : Int} {a : Nat} {cs : Array Value} {t : TypeId} {fr : Nat × Nat} (h : IsS159 w0 W g f0 f1 f2) (hb2 : W.heap[a]? = some (.cells cs t fr)) (ht : t ≠ 159) : g ≠ a := by
 obtain ⟨A0, c0, hb, hg, hr0⟩ := h
 rintro rfl
 rw [hb] at hb2
 injection hb2 with hb2
 injection hb2 with _ ht2
 exact ht ht2.symm
theorem IsS159.far {w0 W : World} {g : Nat} {f0 : List Int} {f1 : Int} {f2 : Int} {p : Addr} (h : IsS159 w0 W g f0 f1 f2) (hne : g ≠ p.block) (u : Value) : IsS159 w0 (W.setCell p u) g f0 f1 f2 := by
 obtain ⟨A0, c0, hb, hg, hr0⟩ := h
 exact ⟨A0, c0, blk_far hb hne u, hg, hr0⟩
theorem cellS159_0 {W : World} {g : Nat} {A0 : Option Addr} {c0 : Nat} {f0 : List Int} {f1 : Int} {f2 : Int} (h : W.heap[g]? = some (.cells #[.slice A0 f0.length c0, .int .i64 f1, .int .i64 f2] 159 (0, 0))) : W.cell? ⟨g, 0, none⟩ = some (.slice A0 f0.length c0) := (blk_cell h 0).trans rfl
theorem cellS159_1 {W : World} {g : Nat} {A0 : Option Addr} {c0 : Nat} {f0 : List Int} {f1 : Int} {f2 : Int} (h : W.heap[g]? = some (.cells #[.slice A0 f0.length c0, .int .i64 f1, .int .i64 f2] 159 (0, 0))) : W.cell? ⟨g, 1, none⟩ = some (.int .i64 f1) := (blk_cell h 1).trans rfl
theorem IsS159.set_1 {w0 W : World} {g : Nat} {f0 : List Int} {f1 : Int} {f2 : Int} (h : IsS159 w0 W g f0 f1 f2) (x : Int) : IsS159 w0 (W.setCell ⟨g, 1, none⟩ (.int .i64 x)) g f0 x f2 := by
 obtain ⟨A0, c0, hb, hg, hr0⟩ := h
 exact ⟨A0, c0, by simpa using blk_set hb 1 (.int .i64 x), hg, hr0⟩
theorem cellS159_2 {W : World} {g : Nat} {A0 : Option Addr} {c0 : Nat} {f0 : List Int} {f1 : Int} {f2 : Int} (h : W.heap[g]? = some (.cells #[.slice A0 f0.length c0, .int .i64 f1, .int .i64 f2] 159 (0, 0))) : W.cell? ⟨g, 2, none⟩ = some (.int .i64 f2) := (blk_cell h 2).trans rfl
theorem IsS159.set_2 {w0 W : World} {g : Nat} {f0 : List Int} {f1 : Int} {f2 : Int} (h : IsS159 w0 W g f0 f1 f2) (x : Int) : IsS159 w0 (W.setCell ⟨g, 2, none⟩ (.int .i64 x)) g f0 f1 x := by
 obtain ⟨A0, c0, hb, hg, hr0⟩ := h
 exact ⟨A0, c0, by simpa using blk_set hb 2 (.int .i64 x), hg, hr0⟩
theorem IsS159.new (w0 W : World) (A0 : Option Addr) (c0 : Nat) (f0 : List Int) (f1 : Int) (f2 : Int) (hB : Below w0.heap.size w0 W) (hr0 : Kd.C (Kd.int .u8) w0 A0 f0.length f0) : IsS159 w0 (W.alloc (.cells #[.slice A0 f0.length c0, .int .i64 f1, .int .i64 f2] 159)) W.heap.size f0 f1 f2 := ⟨A0, c0, by simpa using heap_alloc_new W _, hB.size, hr0⟩

/-! ### spec_l1New: function 109 -/
def spec_l1New.l0 : Nat → List Int → Int → Int → Option (List Int × Int × Int)
 | 0, _, _, _ => none
 | k + 1, x0, x3, x4 => if x4 < (x0.length : Int) then (if x4 < 4000 then (if 0 ≤ x4 then (spec_l1New.l0 k x0 (Go.bits .and .i64 (wrap64 ((wrap64 ((wrap64 (x3 * 137)) + (wrap64 (rd x0 x4)))) + 11)) 1073741823) (wrap64 (x4 + 1))) else (none)) else (some (x0, 0, x3))) else (some (x0, 0, x3))
def spec_l1New.f (k : Nat) (l0 : List Int) : Option (List Int × Int × Int) := spec_l1New.l0 k l0 (wrap64 (193017 + (l0.length : Int))) 0
theorem spec_l1New.mono_l : ∀ k, (∀ y0 y1 y2, LeO (spec_l1New.l0 k y0 y1 y2) (spec_l1New.l0 (k + 1) y0 y1 y2))
 | 0 => fun _ _ _ r h => by simp [spec_l1New.l0] at h
 | k + 1 => by
  have ih0 := spec_l1New.mono_l k
  ·intro y0 y1 y2
   unfold spec_l1New.l0
   repeat' first
   | (with_reducible exact ih0 _ _ _)
   | (with_reducible exact LeO.refl _)
   | (with_reducible exact LeO.none _)
   | (with_reducible refine LeO.ite ?_ ?_)
   | (with_reducible refine LeO.bind ?_ (fun _ => ?_))
   | exact ih0 _ _ _
   | exact LeO.none _
   | refine LeO.ite ?_ ?_
   | refine LeO.bind ?_ (fun _ => ?_)
theorem spec_l1New.mono : ∀ a0 k, LeO (spec_l1New.f k a0) (spec_l1New.f (k + 1) a0) := by
 intro a0 k
 have ih0 := spec_l1New.mono_l k
 unfold spec_l1New.f
 repeat' first
   | (with_reducible exact ih0 _ _ _)
   | (with_reducible exact LeO.refl _)
   | (with_reducible exact LeO.none _)
   | (with_reducible refine LeO.ite ?_ ?_)
   | (with_reducible refine LeO.bind ?_ (fun _ => ?_))
   | exact ih0 _ _ _
   | exact LeO.none _
   | refine LeO.ite ?_ ?_
   | refine LeO.bind ?_ (fun _ => ?_)
set_option maxHeartbeats 8000000 in
set_option maxRecDepth 100000 in
theorem spec_l1New.calls (k : Nat) (A0 : Option Addr) (c0 : Nat) (l0 : List Int) (r1 : List Int) (r2 : Int) (r3 : Int) (w0 w : World) (hB : Below w0.heap.size w0 w) (hr0 : Kd.C (Kd.int .u8) w0 A0 l0.length l0) (hc0 : l0.length ≤ c0) (h : spec_l1New.f k l0 = some (r1, r2, r3)) :
  Calls Try.prog 109 #[.slice A0 l0.length c0] w fun e w' => ∃ g_ : Nat, e = .returned (.pointer (some ⟨g_, 0, none⟩)) ∧ IsS159 w0 w' g_ r1 r2 r3 ∧ Below w0.heap.size w0 w' ∧ Below w.heap.size w w' := by
 have hu159 := Try.underlying159
 have HR0 := Aside0.mk hr0
 have HC0 := Aside0.mk hc0
 clear hr0 hc0
 have HBW := Aside0.mk (Below.refl w.heap.size w)
 have HW0 := Aside0.mk hB.size
 have HB := Aside0.mk hB
 clear hB
 have H : (spec_l1New.l0 k l0 (wrap64 (193017 + (l0.length : Int))) 0) = some (r1, r2, r3) := h
 clear h
 have H' := Aside0.mk H
 clear H
 go_enter Try.func109, Try.ntmps109
 go_wp2
 go_loopg [3, 4] k (fun kq v3 v4 w' => ∃ (x3_1 : Int) (x4_1 : Int), v3 = .int .i64 x3_1 ∧ v4 = .int .i64 x4_1 ∧ Aside0 (spec_l1New.l0 kq l0 x3_1 x4_1 = some (r1, r2, r3)) ∧ Aside0 (kq ≤ k) ∧ Aside0 (Below w0.heap.size w0 w') ∧ Aside0 (Below w.heap.size w w'))
 case atStart => exact ⟨(wrap64 (193017 + (l0.length : Int))), (0), tS, tS, H', ⟨Nat.le_refl _⟩, ⟨tB⟩, ⟨by repeat (first | (with_reducible first | exact HBW.out | apply below_alloc | apply pw_below_drewN | apply below_drew1) | exact HBW.out)⟩⟩
 case round =>
  clear H'
  try clear c1
  obtain ⟨x3_1, x4_1, rfl, rfl, HA, HK1, HB, HBW⟩ := hrel
  cases gk with
  | zero => exact absurd HA.out (by simp [spec_l1New.l0])
  | succ k1 =>
   have H := HA.out
   clear HA
   simp only [spec_l1New.l0] at H
   by_cases c2 : x4_1 < (l0.length : Int)
   ·rw [if_pos c2] at H
    have c2b0 : decide (x4_1 < (l0.length : Int)) = true := decide_eq_true c2
    clear c2
    by_cases c3 : x4_1 < 4000
    ·rw [if_pos c3] at H
     have c3b0 : decide (x4_1 < 4000) = true := decide_eq_true c3
     clear c3
     by_cases c4 : 0 ≤ x4_1
     ·rw [if_pos c4] at H
      have c4b0 : decide (0 ≤ x4_1) = true := decide_eq_true c4
      clear c4
      have H' := Aside0.mk H
      clear H
      have p238 : 0 ≤ (x4_1 : Int) := of_decide_eq_true tA
      have q238 : x4_1 < (l0.length : Int) := of_decide_eq_true tA
      obtain ⟨ad238, e238, hx238_0⟩ := Kd.at_int HR0.out x4_1 p238 q238
      cases e238
      replace hx238_0 := pw_cell_below HB.out hx238_0
      replace p238 := eq_true p238
      replace q238 := eq_true q238
      go_wp2
      go_roundg k1
      case measure => have := HK1.out; omega
      case rel => exact ⟨(Go.bits .and .i64 (wrap64 ((wrap64 ((wrap64 (x3_1 * 137)) + (wrap64 (rd l0 x4_1)))) + 11)) 1073741823), (wrap64 (x4_1 + 1)), tS, tS, H', ⟨tI⟩, ⟨tB⟩, ⟨by repeat (first | (with_reducible first | exact HBW.out | apply below_alloc | apply pw_below_drewN | apply below_drew1) | exact HBW.out)⟩⟩
     rw [if_neg c4] at H
     exact absurd H (by simp)
    rw [if_neg c3] at H
    have c3b0 : decide (x4_1 < 4000) = false := decide_eq_false c3
    clear c3
    simp only [Option.some.injEq, Prod.mk.injEq] at H
    obtain ⟨rfl, rfl, rfl⟩ := H
    go_wp2_with (first | ((with_reducible refine gate_dst (N := 31) rfl ?_); refine box_event ?hg (N := 31) ?hd (cs := #[.slice A0 l0.length c0, .int .i64 0, .int .i64 x3_1]) (t := 159) ?hr ?_; (case hd => rfl); (case hg => rfl); (case hr => exact tG); intro gb239 hg w5 hbox hb; replace HB := bH HB hb; have BK239 := Aside0.mk (hbox); have GW239 := Aside0.mk ((by rw [hg]; exact (below_size (by repeat (first | (with_reducible first | exact HBW.out | apply below_alloc | apply pw_below_drewN | apply below_drew1) | exact HBW.out))) : w.heap.size ≤ gb239)); have GE239 := Aside0.mk ((Nat.le_trans HW0.out (by rw [hg]; exact (below_size (by repeat (first | (with_reducible first | exact HBW.out | apply below_alloc | apply pw_below_drewN | apply below_drew1) | exact HBW.out))) : w.heap.size ≤ gb239) : w0.heap.size ≤ gb239)); replace HBW := Aside0.mk (below_step HBW.out hb); clear hb hbox hg))
    go_ret
    exact ⟨_, rfl, (show IsS159 w0 _ gb239 l0 0 x3_1 from ⟨_, _, tK BK239, GE239.out, HR0.out⟩), tB, by repeat (first | (with_reducible first | exact HBW.out | apply below_alloc | apply pw_below_drewN | apply below_drew1 | refine below_set ?_ GW239.out) | exact HBW.out)⟩
   rw [if_neg c2] at H
   have c2b0 : decide (x4_1 < (l0.length : Int)) = false := decide_eq_false c2
   clear c2
   simp only [Option.some.injEq, Prod.mk.injEq] at H
   obtain ⟨rfl, rfl, rfl⟩ := H
   go_wp2_with (first | ((with_reducible refine gate_dst (N := 31) rfl ?_); refine box_event ?hg (N := 31) ?hd (cs := #[.slice A0 l0.length c0, .int .i64 0, .int .i64 x3_1]) (t := 159) ?hr ?_; (case hd => rfl); (case hg => rfl); (case hr => exact tG); intro gb240 hg w6 hbox hb; replace HB := bH HB hb; have BK240 := Aside0.mk (hbox); have GW240 := Aside0.mk ((by rw [hg]; exact (below_size (by repeat (first | (with_reducible first | exact HBW.out | apply below_alloc | apply pw_below_drewN | apply below_drew1) | exact HBW.out))) : w.heap.size ≤ gb240)); have GE240 := Aside0.mk ((Nat.le_trans HW0.out (by rw [hg]; exact (below_size (by repeat (first | (with_reducible first | exact HBW.out | apply below_alloc | apply pw_below_drewN | apply below_drew1) | exact HBW.out))) : w.heap.size ≤ gb240) : w0.heap.size ≤ gb240)); replace HBW := Aside0.mk (below_step HBW.out hb); clear hb hbox hg))
   go_ret
   exact ⟨_, rfl, (show IsS159 w0 _ gb240 l0 0 x3_1 from ⟨_, _, tK BK240, GE240.out, HR0.out⟩), tB, by repeat (first | (with_reducible first | exact HBW.out | apply below_alloc | apply pw_below_drewN | apply below_drew1 | refine below_set ?_ GW240.out) | exact HBW.out)⟩

/-! ### spec_ReadNotices: function 40 -/
def spec_ReadNotices.l0 : Nat → List (S108) → Int → List (S108) → List (S108) → Option ((List (S108)) × (List (S108)))
 | 0, _, _, _, _ => none
 | k + 1, x5, x6, x242000, x247000 => if x6 < (x242000.length : Int) then (if 0 ≤ x6 then (if ((rd_T108 x242000 x6).f3 = true) then (if x6 < (x247000.length : Int) then (spec_ReadNotices.l0 k x5 (wrap64 (x6 + 1)) x242000 (x247000.set (x6 : Int).toNat (⟨(rd_T108 x247000 x6).f0, (rd_T108 x247000 x6).f1, (rd_T108 x247000 x6).f2, true⟩ : S108))) else (none)) else (if x5.length < 4398046511104 then (if x6 < (x247000.length : Int) then (spec_ReadNotices.l0 k (x5 ++ [(⟨(rd_T108 x242000 x6).f0, (rd_T108 x242000 x6).f1, (rd_T108 x242000 x6).f2, (rd_T108 x242000 x6).f3⟩ : S108)]) (wrap64 (x6 + 1)) x242000 (x247000.set (x6 : Int).toNat (⟨(rd_T108 x247000 x6).f0, (rd_T108 x247000 x6).f1, (rd_T108 x247000 x6).f2, true⟩ : S108))) else (none)) else (none))) else (none)) else (some (x247000, x5))
def spec_ReadNotices.f (k : Nat) (l0_0 : List (S108)) : Option ((List (S108)) × (List (S108))) := (spec_l31Copy.f l0_0).bind fun t243 => (spec_ReadNotices.l0 k (([] : List (S108))) 0 l0_0 t243)
theorem spec_ReadNotices.mono_l : ∀ k, (∀ y0 y1 y2 y3, LeO (spec_ReadNotices.l0 k y0 y1 y2 y3) (spec_ReadNotices.l0 (k + 1) y0 y1 y2 y3))
 | 0 => fun _ _ _ _ r h => by simp [spec_ReadNotices.l0] at h
 | k + 1 => by
  have ih0 := spec_ReadNotices.mono_l k
  ·intro y0 y1 y2 y3
   unfold spec_ReadNotices.l0
   repeat' first
   | (with_reducible exact ih0 _ _ _ _)
   | (with_reducible exact LeO.refl _)
   | (with_reducible exact LeO.none _)
   | (with_reducible refine LeO.ite ?_ ?_)
   | (with_reducible refine LeO.bind ?_ (fun _ => ?_))
   | exact ih0 _ _ _ _
   | exact LeO.none _
   | refine LeO.ite ?_ ?_
   | refine LeO.bind ?_ (fun _ => ?_)
theorem spec_ReadNotices.mono : ∀ a0 k, LeO (spec_ReadNotices.f k a0) (spec_ReadNotices.f (k + 1) a0) := by
 intro a0 k
 have ih0 := spec_ReadNotices.mono_l k
 unfold spec_ReadNotices.f
 repeat' first
   | (with_reducible exact ih0 _ _ _ _)
   | (with_reducible exact LeO.refl _)
   | (with_reducible exact LeO.none _)
   | (with_reducible refine LeO.ite ?_ ?_)
   | (with_reducible refine LeO.bind ?_ (fun _ => ?_))
   | exact ih0 _ _ _ _
   | exact LeO.none _
   | refine LeO.ite ?_ ?_
   | refine LeO.bind ?_ (fun _ => ?_)
set_option maxHeartbeats 8000000 in
set_option maxRecDepth 100000 in
theorem spec_ReadNotices.calls (k : Nat) (A0_0 : Option Addr) (c0_0 : Nat) (l0_0 : List (S108)) (r1 : List (S108)) (r2 : List (S108)) (w : World) (hr0_0 : Kd.C k108 w A0_0 l0_0.length l0_0) (hc0_0 : l0_0.length ≤ c0_0) (h : spec_ReadNotices.f k l0_0 = some (r1, r2)) :
  Calls Try.prog 40 #[.agg #[.slice A0_0 l0_0.length c0_0]] w fun e w' => ∃ v0_ v1_ : Value, e = .returned (.tuple #[.agg #[v0_], v1_]) ∧ Kd.R k108 108 w' w.heap.size (fun k_ => some k_ ≠ (v1_ : Value).ownBlock) v0_ r1 ∧ Kd.R k108 108 w' w.heap.size (fun k_ => some k_ ≠ (v0_ : Value).ownBlock) v1_ r2 ∧ Below w.heap.size w w' := by
 have hu65 := Try.underlying65
 have hu108 := Try.underlying108
 have HR0_0 := Aside0.mk hr0_0
 have HC0_0 := Aside0.mk hc0_0
 clear hr0_0 hc0_0
 have HB := Aside0.mk (Below.refl w.heap.size w)
 have H : ((spec_l31Copy.f l0_0).bind fun t243 => (spec_ReadNotices.l0 k (([] : List (S108))) 0 l0_0 t243)) = some (r1, r2) := h
 clear h
 replace H := Option.bind_eq_some_iff.mp H
 obtain ⟨t243, A20, H⟩ := H
 try dsimp only at H
 have A2 := Aside0.mk A20
 clear A20
 obtain ⟨y247, hy247⟩ : ∃ y_ : List (S108), y_ = (([] : List (S108))) := ⟨_, rfl⟩
 replace H : (spec_ReadNotices.l0 k y247 0 l0_0 t243) = some (r1, r2) := by first | (rw [hy247]; with_reducible exact H) | (have H2_ := (Option.bind_some _ _).symm.trans H; rw [hy247]; with_reducible exact H2_) | (have H2_ := (Option.bind_some _ _).symm.trans H; with_reducible exact H2_) | with_reducible exact H | (rw [hy247]; exact H) | exact H
 have Ny247 := Aside0.mk hy247
 clear hy247
 have H' := Aside0.mk H
 clear H
 go_enter Try.func40, Try.ntmps40
 go_wp2_with (first | ((with_reducible refine gate_dst (N := 1) rfl ?_); refine box_event ?hg (N := 1) ?hd (cs := #[.slice A0_0 l0_0.length c0_0]) (t := 65) ?hr ?_; (case hd => rfl); (case hg => rfl); (case hr => exact tG); intro gb241 hg w3 hbox hb; have BK241 := Aside0.mk (hbox); have GW241 := gW HB hg; have GE241 := gW HB hg; replace HB := bH HB hb; clear hb hbox hg) | ((with_reducible refine gate_dst (N := 2) rfl ?_); refine box_event ?hg (N := 2) ?hd (cs := #[.slice none 0 0]) (t := 65) ?hr ?_; (case hd => rfl); (case hg => rfl); (case hr => exact tG); intro gb242 hg w4 hbox hb; have BK242 := Aside0.mk (hbox); have GW242 := gW HB hg; have GE242 := gW HB hg; replace HB := bH HB hb; have NB241_242 := nL BK241 hg; have NB242_241 := nR BK241 hg; replace BK241 := bB BK241 hb; clear hb hbox hg; have hnb5 := NB241_242.out; have hnc5 := NB242_241.out; obtain ⟨hcz6_0, hfz6_0⟩ := bc1 BK241.out) | ((with_reducible refine gate_callee (f := 93) rfl ?_); refine goesL_ (some 8) rfl rfl Try.func93 (by kernel_rfl) rfl #[.agg #[.slice A0_0 l0_0.length c0_0]] rfl tL ?_; (with_reducible refine (spec_l31Copy.calls _ _ l0_0 t243 _ ?side1 ?side2 A2.out).mono ?_); (case side1 => repeat (first | exact (Kd.C_below HR0_0.out HB.out) | (with_reducible refine Kd.C_alloc ?_ _) | (with_reducible refine Kd.C_drewN ?_ _) | (with_reducible refine Kd.C_drew ?_))); (case side2 => exact HC0_0.out); rintro e w7 ⟨v244, rfl, ho0, hb⟩; refine ⟨_, rfl, ?_⟩; have HO245 := Aside0.mk (Kd.R_lower ho0 (below_size tB)); replace BK241 := bB BK241 hb; replace BK242 := bB BK242 hb; replace HB := bH HB hb; (try clear hb); (try clear hb2); (try clear hk); (try clear hi); (try clear ho0)) | ((with_reducible refine gate_dst (N := 4) rfl ?_); refine box_event ?hg (N := 4) ?hd (cs := #[.slice none 0 0]) (t := 65) ?hr ?_; (case hd => rfl); (case hg => rfl); (case hr => exact tG); intro gb246 hg w8 hbox hb; replace HO245 := Aside0.mk (Kd.R_below (tR HO245) hb); have BK246 := Aside0.mk (hbox); have GW246 := gW HB hg; have GE246 := gW HB hg; replace HB := bH HB hb; have NB241_246 := nL BK241 hg; have NB246_241 := nR BK241 hg; replace BK241 := bB BK241 hb; have NB242_246 := nL BK242 hg; have NB246_242 := nR BK242 hg; replace BK242 := bB BK242 hb; clear hb hbox hg; obtain ⟨Ao9, co9, eo9⟩ := Kd.R_slice HO245.out; subst eo9; have hnb10 := NB246_241.out; have hnc10 := NB241_246.out; have hnb11 := NB246_242.out; have hnc11 := NB242_246.out; obtain ⟨hcz12_0, hfz12_0⟩ := bc1 BK246.out) | ((with_reducible refine gate_dst (N := 9) rfl ?_); refine Kd.R_lit k108 _ 108 ?hg (N := 9) ?hd (xs := ([] : List (S108))) (inner := []) (ok := fun _ => True) (okp := fun _ => True) ?hr ?hp (fun _ hk => hk) trivial (Below.refl _ _) (Nat.le_refl _) (by simp) ?_; (case hd => rfl); (case hg => rfl); (case hr => exact tG); (case hp => exact (Reps.none _ _)); intro v248 w13 ho14 hb hg_ hnew_; clear hg_ hnew_; (first | rw [← Ny247.out] at ho14 | (simp only [Int.reduceToNat] at ho14; rw [← Ny247.out] at ho14)); have HO249 := Aside0.mk (Kd.R_lower (Kd.R_new' ho14 (Kd.R_lt (by (with_reducible repeat (first | apply Kd.R_alloc | apply Kd.R_drewN | apply Kd.R_drew)); exact (Kd.R_mono (Kd.R_far (p := ⟨gb246, 0, none⟩) (Kd.R_types HO245.out BK246.out (by decide)) (fun _ hk => hk.2) (.slice Ao9 t243.length co9)) (fun _ h_ => h_.1))))) (below_size tB)); replace HO245 := Aside0.mk (Kd.R_elder' (by (with_reducible repeat (first | apply Kd.R_alloc | apply Kd.R_drewN | apply Kd.R_drew)); exact (Kd.R_mono (Kd.R_far (p := ⟨gb246, 0, none⟩) (Kd.R_types HO245.out BK246.out (by decide)) (fun _ hk => hk.2) (.slice Ao9 t243.length co9)) (fun _ h_ => h_.1))) (Kd.R_base ho14) hb); replace BK241 := Aside0.mk (blk_below (g := gb241) (o := .cells #[.slice A0_0 l0_0.length c0_0] 65 (0, 0)) (kF NB241_246 BK241) hb); replace BK242 := Aside0.mk (blk_below (g := gb242) (o := .cells #[.slice none 0 0] 65 (0, 0)) (kF NB242_246 BK242) hb); replace BK246 := Aside0.mk (blk_below (g := gb246) (o := .cells #[.slice Ao9 t243.length co9] 65 (0, 0)) (by (with_reducible repeat (first | refine blk_drewN ?_ _ | refine blk_drew ?_ | refine blk_alloc ?_ _)); refine blk_put (cs := #[.slice none 0 0]) ?_ 0 _ rfl; (with_reducible repeat (first | refine blk_drewN ?_ _ | refine blk_drew ?_ | refine blk_alloc ?_ _)); exact BK246.out) hb); replace HB := bH HB hb; clear hb ho14))
 go_loopg [5, 6] k (fun kq v5 v6 w' => ∃ (x5_1 : List (S108)) (x6_1 : Int) (x247000_1 : List (S108)) (u247000 : Value), v6 = .int .i64 x6_1 ∧ Aside0 (spec_ReadNotices.l0 kq x5_1 x6_1 l0_0 x247000_1 = some (r1, r2)) ∧ Aside0 (kq ≤ k) ∧ Aside0 (Kd.R k108 108 w' w.heap.size (fun k_ => some k_ ≠ (u247000 : Value).ownBlock) v5 x5_1) ∧ Aside0 (Kd.R k108 108 w' w.heap.size (fun k_ => some k_ ≠ (v5 : Value).ownBlock) u247000 x247000_1) ∧ Aside0 (w'.heap[gb241]? = some (.cells #[(.slice A0_0 l0_0.length c0_0)] 65 (0, 0))) ∧ Aside0 (w'.heap[gb242]? = some (.cells #[(.slice none 0 0)] 65 (0, 0))) ∧ Aside0 (w'.heap[gb246]? = some (.cells #[u247000] 65 (0, 0))) ∧ Aside0 (Below w.heap.size w w'))
 case atStart => exact ⟨(y247), (0), (t243), (.slice Ao9 t243.length co9), tS, H', ⟨Nat.le_refl _⟩, ⟨by (with_reducible repeat (first | apply Kd.R_alloc | apply Kd.R_drewN | apply Kd.R_drew)); exact Kd.R_mono HO249.out (fun _ hk => hk.2)⟩, ⟨by (with_reducible repeat (first | apply Kd.R_alloc | apply Kd.R_drewN | apply Kd.R_drew)); exact Kd.R_mono HO245.out (fun _ hk => hk.2)⟩, ⟨tK BK241⟩, ⟨tK BK242⟩, ⟨tK BK246⟩, ⟨tB⟩⟩
 case round =>
  clear H'
  try clear c1
  try clear p2
  try clear c4
  try clear c5
  try clear c9
  try clear c10
  try clear c11
  try clear hcz12_0
  try clear hcz6_0
  try clear hfz12_0
  try clear hfz6_0
  obtain ⟨x5_1, x6_1, x247000_1, u247000, rfl, HA, HK1, HO_5, HO_247000, BK241, BK242, BK246, HB⟩ := hrel
  cases gk with
  | zero => exact absurd HA.out (by simp [spec_ReadNotices.l0])
  | succ k1 =>
   have H := HA.out
   clear HA
   simp only [spec_ReadNotices.l0] at H
   by_cases c15 : x6_1 < (l0_0.length : Int)
   ·rw [if_pos c15] at H
    have c15b0 : decide (x6_1 < (l0_0.length : Int)) = true := decide_eq_true c15
    clear c15
    by_cases c16 : 0 ≤ x6_1
    ·rw [if_pos c16] at H
     have c16b0 : decide (0 ≤ x6_1) = true := decide_eq_true c16
     clear c16
     obtain ⟨bq17, hbq17⟩ : ∃ b_ : Bool, b_ = ((rd_T108 l0_0 x6_1).f3) := ⟨_, rfl⟩
     replace H : (if (bq17 = true) then (if x6_1 < (x247000_1.length : Int) then (spec_ReadNotices.l0 k1 x5_1 (wrap64 (x6_1 + 1)) l0_0 (x247000_1.set (x6_1 : Int).toNat (⟨(rd_T108 x247000_1 x6_1).f0, (rd_T108 x247000_1 x6_1).f1, (rd_T108 x247000_1 x6_1).f2, true⟩ : S108))) else (none)) else (if x5_1.length < 4398046511104 then (if x6_1 < (x247000_1.length : Int) then (spec_ReadNotices.l0 k1 (x5_1 ++ [(⟨(rd_T108 l0_0 x6_1).f0, (rd_T108 l0_0 x6_1).f1, (rd_T108 l0_0 x6_1).f2, bq17⟩ : S108)]) (wrap64 (x6_1 + 1)) l0_0 (x247000_1.set (x6_1 : Int).toNat (⟨(rd_T108 x247000_1 x6_1).f0, (rd_T108 x247000_1 x6_1).f1, (rd_T108 x247000_1 x6_1).f2, true⟩ : S108))) else (none)) else (none))) = some (r1, r2) := by rw [← hbq17] at H; exact H
     have Nbq17 := Aside0.mk hbq17
     clear hbq17
     by_cases c18 : (bq17 = true)
     ·subst c18
      have H1 : (if x6_1 < (x247000_1.length : Int) then (spec_ReadNotices.l0 k1 x5_1 (wrap64 (x6_1 + 1)) l0_0 (x247000_1.set (x6_1 : Int).toNat (⟨(rd_T108 x247000_1 x6_1).f0, (rd_T108 x247000_1 x6_1).f1, (rd_T108 x247000_1 x6_1).f2, true⟩ : S108))) else (none)) = some (r1, r2) := by rw [if_pos rfl] at H; exact H
      clear H
      have H := H1
      clear H1
      by_cases c19 : x6_1 < (x247000_1.length : Int)
      ·rw [if_pos c19] at H
       have c19b0 : decide (x6_1 < (x247000_1.length : Int)) = true := decide_eq_true c19
       clear c19
       obtain ⟨y251, hy251⟩ : ∃ y_ : List (S108), y_ = (x247000_1.set (x6_1 : Int).toNat (⟨(rd_T108 x247000_1 x6_1).f0, (rd_T108 x247000_1 x6_1).f1, (rd_T108 x247000_1 x6_1).f2, true⟩ : S108)) := ⟨_, rfl⟩
       replace H : (spec_ReadNotices.l0 k1 x5_1 (wrap64 (x6_1 + 1)) l0_0 y251) = some (r1, r2) := by first | (rw [hy251]; with_reducible exact H) | (have H2_ := (Option.bind_some _ _).symm.trans H; rw [hy251]; with_reducible exact H2_) | (have H2_ := (Option.bind_some _ _).symm.trans H; with_reducible exact H2_) | with_reducible exact H | (rw [hy251]; exact H) | exact H
       have Ny251 := Aside0.mk hy251
       clear hy251
       have H' := Aside0.mk H
       clear H
       have hnb21 := NB241_242.out
       have hnc21 := NB242_241.out
       have hnb22 := NB241_246.out
       have hnc22 := NB246_241.out
       obtain ⟨hcz23_0, hfz23_0⟩ := bc1 BK241.out
       have p250 : 0 ≤ (x6_1 : Int) := of_decide_eq_true tA
       have q250 : x6_1 < (l0_0.length : Int) := of_decide_eq_true tA
       obtain ⟨ad250, e250, hx250_0, hx250_1, hx250_2, hx250_3⟩ := at_T108 HR0_0.out x6_1 p250 q250
       (try rw [← Nbq17.out] at hx250_3)
       cases e250
       replace hx250_0 := hbc HB hx250_0
       replace hx250_1 := hbc HB hx250_1
       replace hx250_2 := hbc HB hx250_2
       replace hx250_3 := hbc HB hx250_3
       replace p250 := eq_true p250
       replace q250 := eq_true q250
       have hnb24 := NB246_242.out
       have hnc24 := NB242_246.out
       obtain ⟨hcz25_0, hfz25_0⟩ := bc1 BK246.out
       have p20 : 0 ≤ (x6_1 : Int) := of_decide_eq_true tA
       have q20 : (x6_1 : Int) < ((x247000_1.length : Int) : Int) := of_decide_eq_true tA
       obtain ⟨go20, co20, eo20, gb20, gl20, cl20, HG20⟩ := Kd.R_form HO_247000.out (by omega)
       (first | cases eo20 | (injection eo20 with ea_ en_ ec_; (first | subst ea_ | (injection ea_ with ea_; subst ea_)); subst ec_; clear en_))
       have GB20 := Aside0.mk gb20
       have GG20 := Aside0.mk HG20
       clear gb20 gl20 HG20
       obtain ⟨ce20, hcl20, hM20, hcc20, hfr20⟩ := Kd.R_elem HO_247000.out z108 (x6_1 : Int) p20 q20
       obtain rfl := k108_openM hM20
       have hx20_0 : wr.cell? ⟨go20, (x6_1 : Int).toNat * 4, none⟩ = some (.int .i64 ((rd_T108 x247000_1 x6_1).f0)) := hcc20 0 _ rfl
       have hx20_1 : wr.cell? ⟨go20, (x6_1 : Int).toNat * 4 + 1, none⟩ = some (.int .i64 ((rd_T108 x247000_1 x6_1).f1)) := hcc20 1 _ rfl
       have hx20_2 : wr.cell? ⟨go20, (x6_1 : Int).toNat * 4 + 2, none⟩ = some (.int .i64 ((rd_T108 x247000_1 x6_1).f2)) := hcc20 2 _ rfl
       have hx20_3 : wr.cell? ⟨go20, (x6_1 : Int).toNat * 4 + 3, none⟩ = some (.bool ((rd_T108 x247000_1 x6_1).f3)) := hcc20 3 _ rfl
       have hf20_0 : wr.frozen? ⟨go20, (x6_1 : Int).toNat * 4, none⟩ = false := hfr20 0
       have hf20_1 : wr.frozen? ⟨go20, (x6_1 : Int).toNat * 4 + 1, none⟩ = false := hfr20 1
       have hf20_2 : wr.frozen? ⟨go20, (x6_1 : Int).toNat * 4 + 2, none⟩ = false := hfr20 2
       have hf20_3 : wr.frozen? ⟨go20, (x6_1 : Int).toNat * 4 + 3, none⟩ = false := hfr20 3
       clear hcl20 hcc20 hfr20 hM20
       replace p20 := eq_true p20
       replace q20 := eq_true q20
       have HX26 := Aside0.mk (show Kd.R k108 108 wr w.heap.size (fun k_ => some k_ ≠ (u5 : Value).ownBlock) (.slice (some ⟨go20, 0, none⟩) x247000_1.length co20) x247000_1 from (tR HO_247000))
       obtain ⟨ce26, hcl26, hM26, hcc26, hfr26⟩ := Kd.R_elem HX26.out z108 (x6_1 : Int) (of_decide_eq_true tA) (by have h_ : (x6_1 : Int) < ((x247000_1.length : Int) : Int) := of_decide_eq_true tA; first | exact h_ | (have e_ := (Kd.R_reads' HO_247000.out).1; omega) | simpa using h_)
       obtain rfl := k108_openM hM26
       have HP26 := Kd.R_seg HX26.out (x6_1 : Int) (of_decide_eq_true tA) (by have h_ : (x6_1 : Int) < ((x247000_1.length : Int) : Int) := of_decide_eq_true tA; first | exact h_ | (have e_ := (Kd.R_reads' HO_247000.out).1; omega) | simpa using h_) (seg := [.bool true]) (j := 3) hcl26 hcc26 (show 4 ≤ 4 from by decide) (x' := (⟨(rd_T108 x247000_1 x6_1).f0, (rd_T108 x247000_1 x6_1).f1, (rd_T108 x247000_1 x6_1).f2, true⟩ : S108)) (k108_mkM _ _ _ (⟨(rd_T108 x247000_1 x6_1).f0, (rd_T108 x247000_1 x6_1).f1, (rd_T108 x247000_1 x6_1).f2, true⟩ : S108) ) (fun _ hk => hk)
       have hx26_3 := hcc26 3 _ rfl
       (try simp only [show (k108).sz = 4 from rfl, Nat.mul_one, Nat.add_zero] at hx26_3)
       have hf26_3 := hfr26 3
       (try simp only [show (k108).sz = 4 from rfl, Nat.mul_one, Nat.add_zero] at hf26_3)
       clear hcl26 hcc26 hfr26 hM26
       go_wp2_with (first | ((with_reducible refine gate_store (t := 4) (p := 36) rfl ?_); refine store_event (t := 4) (p := 36) (v := ?vo_w27) (w1 := (wr.setCell ⟨go20, (x6_1 : Int).toNat * 4 + 3, none⟩ (.bool true))) ?hg ?ho ?hn ?hr ?_; (case ho => rfl); (case hg => rfl); (case hn => rfl); (case hr => first | (go_simp; done) | (go_simp; rfl)); intro w27 hw; have hg : wr.grownBy w27 (some go20) := (by rw [hw]; exact HP26.2); have hp_ : Kd.R k108 108 w27 w.heap.size (fun k_ => some k_ ≠ (u5 : Value).ownBlock) (.slice (some ⟨go20, 0, none⟩) x247000_1.length co20) y251 := (by rw [hw, Ny251.out]; exact HP26.1); clear HP26; replace HO_5 := Aside0.mk (Kd.R_after (v := (.slice (some ⟨go20, 0, none⟩) x247000_1.length co20)) (v1 := (.slice (some ⟨go20, 0, none⟩) x247000_1.length co20)) (ok := (fun _ => True)) (by (with_reducible repeat (first | apply Kd.R_alloc | apply Kd.R_drewN | apply Kd.R_drew)); exact Kd.R_mono HO_5.out (fun _ hk => ⟨trivial, hk⟩)) hg (.inl rfl)); replace BK241 := Aside0.mk (blk_grown (g := gb241) (o := .cells #[.slice (some ad250) l0_0.length c0_0] 65 (0, 0)) (tK BK241) hg (Kd.R_ne HO_247000.out BK241.out (by decide))); replace BK242 := Aside0.mk (blk_grown (g := gb242) (o := .cells #[.slice none 0 0] 65 (0, 0)) (tK BK242) hg (Kd.R_ne HO_247000.out BK242.out (by decide))); replace BK246 := Aside0.mk (blk_grown (g := gb246) (o := .cells #[.slice (some ⟨go20, 0, none⟩) x247000_1.length co20] 65 (0, 0)) (tK BK246) hg (Kd.R_ne HO_247000.out BK246.out (by decide))); replace HO_247000 := Aside0.mk (hp_); replace HB := Aside0.mk ((by rw [hw]; exact below_set (HB.out) GB20.out : Below w.heap.size w w27)); clear hg hw hp_))
       go_roundg k1
       case measure => have := HK1.out; omega
       case rel => exact ⟨(x5_1), (wrap64 (x6_1 + 1)), (y251), (.slice (some ⟨go20, 0, none⟩) x247000_1.length co20), tS, H', ⟨tI⟩, ⟨by (with_reducible repeat (first | apply Kd.R_alloc | apply Kd.R_drewN | apply Kd.R_drew)); exact Kd.R_mono HO_5.out (fun _ hk => hk.2)⟩, ⟨tR HO_247000⟩, ⟨tK BK241⟩, ⟨tK BK242⟩, ⟨tK BK246⟩, ⟨tB⟩⟩
      rw [if_neg c19] at H
      exact absurd H (by simp)
     replace c18 := Bool.eq_false_iff.mpr c18
     subst c18
     have H1 : (if x5_1.length < 4398046511104 then (if x6_1 < (x247000_1.length : Int) then (spec_ReadNotices.l0 k1 (x5_1 ++ [(⟨(rd_T108 l0_0 x6_1).f0, (rd_T108 l0_0 x6_1).f1, (rd_T108 l0_0 x6_1).f2, false⟩ : S108)]) (wrap64 (x6_1 + 1)) l0_0 (x247000_1.set (x6_1 : Int).toNat (⟨(rd_T108 x247000_1 x6_1).f0, (rd_T108 x247000_1 x6_1).f1, (rd_T108 x247000_1 x6_1).f2, true⟩ : S108))) else (none)) else (none)) = some (r1, r2) := by rw [if_neg (show ¬ (false = true) by decide)] at H; exact H
     clear H
     have H := H1
     clear H1
     by_cases c28 : x5_1.length < 4398046511104
     ·rw [if_pos c28] at H
      have LMc28 := Aside0.mk c28
      clear c28
      obtain ⟨y253, hy253⟩ : ∃ y_ : List (S108), y_ = (x5_1 ++ [(⟨(rd_T108 l0_0 x6_1).f0, (rd_T108 l0_0 x6_1).f1, (rd_T108 l0_0 x6_1).f2, false⟩ : S108)]) := ⟨_, rfl⟩
      replace H : (if x6_1 < (x247000_1.length : Int) then (spec_ReadNotices.l0 k1 y253 (wrap64 (x6_1 + 1)) l0_0 (x247000_1.set (x6_1 : Int).toNat (⟨(rd_T108 x247000_1 x6_1).f0, (rd_T108 x247000_1 x6_1).f1, (rd_T108 x247000_1 x6_1).f2, true⟩ : S108))) else (none)) = some (r1, r2) := by first | (rw [hy253]; with_reducible exact H) | (have H2_ := (Option.bind_some _ _).symm.trans H; rw [hy253]; with_reducible exact H2_) | (have H2_ := (Option.bind_some _ _).symm.trans H; with_reducible exact H2_) | with_reducible exact H | (rw [hy253]; exact H) | exact H
      have Ny253 := Aside0.mk hy253
      clear hy253
      by_cases c29 : x6_1 < (x247000_1.length : Int)
      ·rw [if_pos c29] at H
       have c29b0 : decide (x6_1 < (x247000_1.length : Int)) = true := decide_eq_true c29
       clear c29
       obtain ⟨y256, hy256⟩ : ∃ y_ : List (S108), y_ = (x247000_1.set (x6_1 : Int).toNat (⟨(rd_T108 x247000_1 x6_1).f0, (rd_T108 x247000_1 x6_1).f1, (rd_T108 x247000_1 x6_1).f2, true⟩ : S108)) := ⟨_, rfl⟩
       replace H : (spec_ReadNotices.l0 k1 y253 (wrap64 (x6_1 + 1)) l0_0 y256) = some (r1, r2) := by first | (rw [hy256]; with_reducible exact H) | (have H2_ := (Option.bind_some _ _).symm.trans H; rw [hy256]; with_reducible exact H2_) | (have H2_ := (Option.bind_some _ _).symm.trans H; with_reducible exact H2_) | with_reducible exact H | (rw [hy256]; exact H) | exact H
       have Ny256 := Aside0.mk hy256
       clear hy256
       have H' := Aside0.mk H
       clear H
       have hnb31 := NB241_242.out
       have hnc31 := NB242_241.out
       have hnb32 := NB241_246.out
       have hnc32 := NB246_241.out
       obtain ⟨hcz33_0, hfz33_0⟩ := bc1 BK241.out
       have p250 : 0 ≤ (x6_1 : Int) := of_decide_eq_true tA
       have q250 : x6_1 < (l0_0.length : Int) := of_decide_eq_true tA
       obtain ⟨ad250, e250, hx250_0, hx250_1, hx250_2, hx250_3⟩ := at_T108 HR0_0.out x6_1 p250 q250
       (try rw [← Nbq17.out] at hx250_3)
       cases e250
       replace hx250_0 := hbc HB hx250_0
       replace hx250_1 := hbc HB hx250_1
       replace hx250_2 := hbc HB hx250_2
       replace hx250_3 := hbc HB hx250_3
       replace p250 := eq_true p250
       replace q250 := eq_true q250
       have p252 : 0 ≤ (x6_1 : Int) := of_decide_eq_true tA
       have q252 : x6_1 < (l0_0.length : Int) := of_decide_eq_true tA
       obtain ⟨ad252, e252, hx252_0, hx252_1, hx252_2, hx252_3⟩ := at_T108 HR0_0.out x6_1 p252 q252
       (try rw [← Nbq17.out] at hx252_3)
       obtain rfl : ad250 = ad252 := (by injection e252)
       replace hx252_0 := hbc HB hx252_0
       replace hx252_1 := hbc HB hx252_1
       replace hx252_2 := hbc HB hx252_2
       replace hx252_3 := hbc HB hx252_3
       replace p252 := eq_true p252
       replace q252 := eq_true q252
       go_wp2_with (first | ((with_reducible refine gate_builtin (b := .append) (xs := #[.tmp 24, .tmp 30]) rfl ?_); at_builtin; refine Kd.R_append k108 (w0 := w) w.heap.size rfl (.tmp 24) (.tmp 30) 63 108 (.agg #[(.int .i64 0), (.int .i64 0), (.int .i64 0), (.bool false)]) 32 rfl Try.underlying63 info108 rfl (by decide) (by omega) u5 x5_1 (⟨(rd_T108 l0_0 x6_1).f0, (rd_T108 l0_0 x6_1).f1, (rd_T108 l0_0 x6_1).f2, false⟩ : S108) [.int .i64 ((rd_T108 l0_0 x6_1).f0), .int .i64 ((rd_T108 l0_0 x6_1).f1), .int .i64 ((rd_T108 l0_0 x6_1).f2), .bool false] (fun k_ => some k_ ≠ (u247000 : Value).ownBlock) (fun _ => False) rfl rfl ?aP (fun _ hk => hk.elim) ?aF ?aO ?aB ?aS ?aL ?_; (case aP => exact k108_mkM _ _ _ (⟨(rd_T108 l0_0 x6_1).f0, (rd_T108 l0_0 x6_1).f1, (rd_T108 l0_0 x6_1).f2, false⟩ : S108)); (case aB => exact tB); (case aF => exact (fun k_ hk => Kd.fresh' (Kd.R_lt (tR HO_247000)) k_ hk)); (case aO => exact (tR HO_5)); (case aS => exact (below_size tB)); (case aL => have := LMc28.out; omega); intro v254 w34 ho hb hg hat; rw [← Ny253.out] at ho; replace HO_247000 := Aside0.mk (Kd.R_after (ok := (fun _ => True)) (by (with_reducible repeat (first | apply Kd.R_alloc | apply Kd.R_drewN | apply Kd.R_drew)); exact Kd.R_mono HO_247000.out (fun _ hk => ⟨trivial, hk⟩)) hg hat); replace BK241 := Aside0.mk (blk_grown (g := gb241) (o := .cells #[.slice (some ad250) l0_0.length c0_0] 65 (0, 0)) (tK BK241) hg (Kd.R_ne HO_5.out BK241.out (by decide))); replace BK242 := Aside0.mk (blk_grown (g := gb242) (o := .cells #[.slice none 0 0] 65 (0, 0)) (tK BK242) hg (Kd.R_ne HO_5.out BK242.out (by decide))); replace BK246 := Aside0.mk (blk_grown (g := gb246) (o := .cells #[u247000] 65 (0, 0)) (tK BK246) hg (Kd.R_ne HO_5.out BK246.out (by decide))); replace HB := Aside0.mk (hb); have HO255 := Aside0.mk (ho); clear HO_5; clear ho hb hg hat; have hnb35 := NB246_242.out; have hnc35 := NB242_246.out; obtain ⟨hcz36_0, hfz36_0⟩ := bc1 BK246.out; have p30 : 0 ≤ (x6_1 : Int) := of_decide_eq_true tA; have q30 : (x6_1 : Int) < ((x247000_1.length : Int) : Int) := of_decide_eq_true tA; obtain ⟨go30, co30, eo30, gb30, gl30, cl30, HG30⟩ := Kd.R_form HO_247000.out (by omega); (first | cases eo30 | (injection eo30 with ea_ en_ ec_; (first | subst ea_ | (injection ea_ with ea_; subst ea_)); subst ec_; clear en_)); have GB30 := Aside0.mk gb30; have GG30 := Aside0.mk HG30; clear gb30 gl30 HG30; obtain ⟨ce30, hcl30, hM30, hcc30, hfr30⟩ := Kd.R_elem HO_247000.out z108 (x6_1 : Int) p30 q30; obtain rfl := k108_openM hM30; have hx30_0 : w34.cell? ⟨go30, (x6_1 : Int).toNat * 4, none⟩ = some (.int .i64 ((rd_T108 x247000_1 x6_1).f0)) := hcc30 0 _ rfl; have hx30_1 : w34.cell? ⟨go30, (x6_1 : Int).toNat * 4 + 1, none⟩ = some (.int .i64 ((rd_T108 x247000_1 x6_1).f1)) := hcc30 1 _ rfl; have hx30_2 : w34.cell? ⟨go30, (x6_1 : Int).toNat * 4 + 2, none⟩ = some (.int .i64 ((rd_T108 x247000_1 x6_1).f2)) := hcc30 2 _ rfl; have hx30_3 : w34.cell? ⟨go30, (x6_1 : Int).toNat * 4 + 3, none⟩ = some (.bool ((rd_T108 x247000_1 x6_1).f3)) := hcc30 3 _ rfl; have hf30_0 : w34.frozen? ⟨go30, (x6_1 : Int).toNat * 4, none⟩ = false := hfr30 0; have hf30_1 : w34.frozen? ⟨go30, (x6_1 : Int).toNat * 4 + 1, none⟩ = false := hfr30 1; have hf30_2 : w34.frozen? ⟨go30, (x6_1 : Int).toNat * 4 + 2, none⟩ = false := hfr30 2; have hf30_3 : w34.frozen? ⟨go30, (x6_1 : Int).toNat * 4 + 3, none⟩ = false := hfr30 3; clear hcl30 hcc30 hfr30 hM30; replace p30 := eq_true p30; replace q30 := eq_true q30; have n_ := Aside0.mk (Kd.R_mono (ok' := (fun k_ => some k_ ≠ (v254 : Value).ownBlock)) HO_247000.out (fun k_ hk => hk.2)); clear HO_247000; have HO_247000 := n_; clear n_; have HX37 := Aside0.mk (show Kd.R k108 108 w34 w.heap.size (fun k_ => some k_ ≠ (v254 : Value).ownBlock) (.slice (some ⟨go30, 0, none⟩) x247000_1.length co30) x247000_1 from (tR HO_247000)); obtain ⟨ce37, hcl37, hM37, hcc37, hfr37⟩ := Kd.R_elem HX37.out z108 (x6_1 : Int) (of_decide_eq_true tA) (by have h_ : (x6_1 : Int) < ((x247000_1.length : Int) : Int) := of_decide_eq_true tA; first | exact h_ | (have e_ := (Kd.R_reads' HO_247000.out).1; omega) | simpa using h_); obtain rfl := k108_openM hM37; have HP37 := Kd.R_seg HX37.out (x6_1 : Int) (of_decide_eq_true tA) (by have h_ : (x6_1 : Int) < ((x247000_1.length : Int) : Int) := of_decide_eq_true tA; first | exact h_ | (have e_ := (Kd.R_reads' HO_247000.out).1; omega) | simpa using h_) (seg := [.bool true]) (j := 3) hcl37 hcc37 (show 4 ≤ 4 from by decide) (x' := (⟨(rd_T108 x247000_1 x6_1).f0, (rd_T108 x247000_1 x6_1).f1, (rd_T108 x247000_1 x6_1).f2, true⟩ : S108)) (k108_mkM _ _ _ (⟨(rd_T108 x247000_1 x6_1).f0, (rd_T108 x247000_1 x6_1).f1, (rd_T108 x247000_1 x6_1).f2, true⟩ : S108) ) (fun _ hk => hk); have hx37_3 := hcc37 3 _ rfl; (try simp only [show (k108).sz = 4 from rfl, Nat.mul_one, Nat.add_zero] at hx37_3); have hf37_3 := hfr37 3; (try simp only [show (k108).sz = 4 from rfl, Nat.mul_one, Nat.add_zero] at hf37_3); clear hcl37 hcc37 hfr37 hM37) | ((with_reducible refine gate_store (t := 4) (p := 36) rfl ?_); refine store_event (t := 4) (p := 36) (v := ?vo_w38) (w1 := (w34.setCell ⟨go30, (x6_1 : Int).toNat * 4 + 3, none⟩ (.bool true))) ?hg ?ho ?hn ?hr ?_; (case ho => rfl); (case hg => rfl); (case hn => rfl); (case hr => first | (go_simp; done) | (go_simp; rfl)); intro w38 hw; have hg : w34.grownBy w38 (some go30) := (by rw [hw]; exact HP37.2); have hp_ : Kd.R k108 108 w38 w.heap.size (fun k_ => some k_ ≠ (v254 : Value).ownBlock) (.slice (some ⟨go30, 0, none⟩) x247000_1.length co30) y256 := (by rw [hw, Ny256.out]; exact HP37.1); clear HP37; replace BK241 := Aside0.mk (blk_grown (g := gb241) (o := .cells #[.slice (some ad250) l0_0.length c0_0] 65 (0, 0)) (tK BK241) hg (Kd.R_ne HO_247000.out BK241.out (by decide))); replace BK242 := Aside0.mk (blk_grown (g := gb242) (o := .cells #[.slice none 0 0] 65 (0, 0)) (tK BK242) hg (Kd.R_ne HO_247000.out BK242.out (by decide))); replace BK246 := Aside0.mk (blk_grown (g := gb246) (o := .cells #[.slice (some ⟨go30, 0, none⟩) x247000_1.length co30] 65 (0, 0)) (tK BK246) hg (Kd.R_ne HO_247000.out BK246.out (by decide))); replace HO_247000 := Aside0.mk (hp_); replace HO255 := Aside0.mk (Kd.R_after (v := (.slice (some ⟨go30, 0, none⟩) x247000_1.length co30)) (v1 := (.slice (some ⟨go30, 0, none⟩) x247000_1.length co30)) (ok := (fun _ => True)) (by (with_reducible repeat (first | apply Kd.R_alloc | apply Kd.R_drewN | apply Kd.R_drew)); exact Kd.R_mono HO255.out (fun _ hk => ⟨trivial, hk⟩)) hg (.inl rfl)); replace HB := Aside0.mk ((by rw [hw]; exact below_set (HB.out) GB30.out : Below w.heap.size w w38)); clear hg hw hp_))
       go_roundg k1
       case measure => have := HK1.out; omega
       case rel => exact ⟨(y253), (wrap64 (x6_1 + 1)), (y256), (.slice (some ⟨go30, 0, none⟩) x247000_1.length co30), tS, H', ⟨tI⟩, ⟨by (with_reducible repeat (first | apply Kd.R_alloc | apply Kd.R_drewN | apply Kd.R_drew)); exact Kd.R_mono HO255.out (fun _ hk => hk.2)⟩, ⟨tR HO_247000⟩, ⟨tK BK241⟩, ⟨tK BK242⟩, ⟨tK BK246⟩, ⟨tB⟩⟩
      rw [if_neg c29] at H
      exact absurd H (by simp)
     rw [if_neg c28] at H
     exact absurd H (by simp)
    rw [if_neg c16] at H
    exact absurd H (by simp)
   rw [if_neg c15] at H
   have c15b0 : decide (x6_1 < (l0_0.length : Int)) = false := decide_eq_false c15
   clear c15
   simp only [Option.some.injEq, Prod.mk.injEq] at H
   obtain ⟨rfl, rfl⟩ := H
   have hnb39 := NB241_242.out
   have hnc39 := NB242_241.out
   have hnb40 := NB241_246.out
   have hnc40 := NB246_241.out
   obtain ⟨hcz41_0, hfz41_0⟩ := bc1 BK241.out
   have hnb42 := NB246_242.out
   have hnc42 := NB242_246.out
   obtain ⟨hcz43_0, hfz43_0⟩ := bc1 BK246.out
   obtain ⟨Ao44, co44, eo44⟩ := Kd.R_slice HO_247000.out
   subst eo44
   obtain ⟨hcz45_0, hfz45_0⟩ := bc1 BK242.out
   go_wp2
   refine bodyPost_ret (results_ct rfl _ _ gb242 65 #[.slice Ao44 x247000_1.length co44] (0, 0) _ rfl (by (with_reducible repeat (first | refine blk_drewN ?_ _ | refine blk_drew ?_ | refine blk_alloc ?_ _)); refine blk_put (cs := #[.slice none 0 0]) ?_ 0 _ rfl; (with_reducible repeat (first | refine blk_drewN ?_ _ | refine blk_drew ?_ | refine blk_alloc ?_ _)); exact BK242.out) Try.underlying65 rfl (by kernel_rfl)) rfl ?_
   exact ⟨_, _, tE, by (with_reducible repeat (first | apply Kd.R_alloc | apply Kd.R_drewN | apply Kd.R_drew)); exact Kd.R_mono (Kd.R_far (p := ⟨gb242, 0, none⟩) (Kd.R_types HO_247000.out BK242.out (by decide)) (fun _ hk => hk.2) (.slice Ao44 x247000_1.length co44)) (fun _ hk => hk.1), by (with_reducible repeat (first | apply Kd.R_alloc | apply Kd.R_drewN | apply Kd.R_drew)); exact Kd.R_mono (Kd.R_far (p := ⟨gb242, 0, none⟩) (Kd.R_types HO_5.out BK242.out (by decide)) (fun _ hk => hk.2) (.slice Ao44 x247000_1.length co44)) (fun _ hk => hk.1), tB⟩

/-! ### spec_l1Byte: function 127 -/
def spec_l1Byte.f (s0_0 : List Int) (s0_1 : Int) (s0_2 : Int) : Option (Int × Int × Int) := if s0_1 < (s0_0.length : Int) then (if 0 ≤ s0_1 then (some (Go.bits .and .i64 (wrap64 ((Go.bits .and .i64 (Go.bits .xor .i64 ((wrap64 ((wrap64 (s0_2 * 6364136223846793005)) + 1442695040888963407)) / 8589934592) ((wrap64 ((wrap64 (s0_2 * 6364136223846793005)) + 1442695040888963407)) / 140737488355328)) 255) + (wrap64 (rd s0_0 s0_1)))) 255, wrap64 (s0_1 + 1), wrap64 ((wrap64 (s0_2 * 6364136223846793005)) + 1442695040888963407))) else (none)) else (some (Go.bits .and .i64 (Go.bits .xor .i64 ((wrap64 ((wrap64 (s0_2 * 6364136223846793005)) + 1442695040888963407)) / 8589934592) ((wrap64 ((wrap64 (s0_2 * 6364136223846793005)) + 1442695040888963407)) / 140737488355328)) 255, s0_1, wrap64 ((wrap64 (s0_2 * 6364136223846793005)) + 1442695040888963407)))
set_option maxHeartbeats 8000000 in
set_option maxRecDepth 100000 in
theorem spec_l1Byte.calls (g : Nat) (s0_0 : List Int) (s0_1 : Int) (s0_2 : Int) (r1 : Int) (r2 : Int) (r3 : Int) (w0 w : World) (hI : IsS159 w0 w g s0_0 s0_1 s0_2) (hB : Below w0.heap.size w0 w) (h : spec_l1Byte.f s0_0 s0_1 s0_2 = some (r1, r2, r3)) :
  Calls Try.prog 127 #[.pointer (some ⟨g, 0, none⟩)] w fun e w' => e = .returned (.int .i64 r1) ∧ IsS159 w0 w' g s0_0 r2 r3 ∧ Below w0.heap.size w0 w' ∧ KeepBut w w' g none := by
 have HI0 := Aside0.mk hI
 have HK := Aside0.mk (KeepBut.refl w g none)
 have HL := Aside0.mk hB.size
 clear hI
 have HW0 := Aside0.mk hB.size
 have HB := Aside0.mk hB
 clear hB
 have H : (if s0_1 < (s0_0.length : Int) then (if 0 ≤ s0_1 then (some (Go.bits .and .i64 (wrap64 ((Go.bits .and .i64 (Go.bits .xor .i64 ((wrap64 ((wrap64 (s0_2 * 6364136223846793005)) + 1442695040888963407)) / 8589934592) ((wrap64 ((wrap64 (s0_2 * 6364136223846793005)) + 1442695040888963407)) / 140737488355328)) 255) + (wrap64 (rd s0_0 s0_1)))) 255, wrap64 (s0_1 + 1), wrap64 ((wrap64 (s0_2 * 6364136223846793005)) + 1442695040888963407))) else (none)) else (some (Go.bits .and .i64 (Go.bits .xor .i64 ((wrap64 ((wrap64 (s0_2 * 6364136223846793005)) + 1442695040888963407)) / 8589934592) ((wrap64 ((wrap64 (s0_2 * 6364136223846793005)) + 1442695040888963407)) / 140737488355328)) 255, s0_1, wrap64 ((wrap64 (s0_2 * 6364136223846793005)) + 1442695040888963407)))) = some (r1, r2, r3) := h
 clear h
 by_cases c2 : s0_1 < (s0_0.length : Int)
 ·rw [if_pos c2] at H
  have c2b0 : decide (s0_1 < (s0_0.length : Int)) = true := decide_eq_true c2
  clear c2
  by_cases c3 : 0 ≤ s0_1
  ·rw [if_pos c3] at H
   have c3b0 : decide (0 ≤ s0_1) = true := decide_eq_true c3
   clear c3
   simp only [Option.some.injEq, Prod.mk.injEq] at H
   obtain ⟨rfl, rfl, rfl⟩ := H
   obtain ⟨ASz4_0, cSz4_0, HGz4, hgz4, HSz4_0⟩ := HI0.out
   have hcz4_0 := cellS159_0 HGz4
   have hcz4_1 := cellS159_1 HGz4
   have hcz4_2 := cellS159_2 HGz4
   have hfz4_1 := blk_frozen HGz4 1
   have hfz4_2 := blk_frozen HGz4 2
   clear HGz4 hgz4
   have p257 : 0 ≤ (s0_1 : Int) := of_decide_eq_true tA
   have q257 : s0_1 < (s0_0.length : Int) := of_decide_eq_true tA
   obtain ⟨ad257, e257, hx257_0⟩ := Kd.at_int HSz4_0 s0_1 p257 q257
   cases e257
   have hn257_0 : ad257.block ≠ g := Nat.ne_of_lt (Nat.lt_of_lt_of_le (by have := World.block_lt_of_cell? _ _ hx257_0; first | rwa [add_block] at this | exact this) (IsS159.ge HI0.out))
   replace hx257_0 := pw_cell_below HB.out hx257_0
   replace hx257_0 := (cell_far (p := ⟨g, 2, none⟩) (by first | (rw [add_block]; exact hn257_0) | (show (Addr.add _ _).block ≠ _; rw [add_block]; exact hn257_0) | exact hn257_0) (.int .i64 (wrap64 ((wrap64 (s0_2 * 6364136223846793005)) + 1442695040888963407)))).trans hx257_0
   (try have hy257_0 := fun (n_ : Nat) => (show (((w.drewN n_).setCell ⟨g, 2, none⟩ (.int .i64 (wrap64 ((wrap64 (s0_2 * 6364136223846793005)) + 1442695040888963407))))).cell? _ = some _ from hx257_0))
   clear hn257_0
   replace p257 := eq_true p257
   replace q257 := eq_true q257
   go_enter Try.func127, Try.ntmps127
   go_wp2
   repeat (go_quiet (fail); try go_wp2)
   go_ret
   exact ⟨tE, by repeat (first | (with_reducible first | exact HI0.out | apply IsS159.alloc | apply IsS159.drewN | apply IsS159.drew | apply IsS159.set_1 | apply IsS159.set_2) | exact HI0.out), by repeat (first | (with_reducible first | exact HB.out | apply below_alloc | apply pw_below_drewN | apply below_drew1 | refine below_set ?_ (IsS159.ge HI0.out)) | exact HB.out), by repeat (first | (with_reducible first | exact HK.out | apply KeepBut.set_ | apply keep_drewN | apply keep_drew | apply keep_alloc) | exact HK.out)⟩
  rw [if_neg c3] at H
  exact absurd H (by simp)
 rw [if_neg c2] at H
 have c2b0 : decide (s0_1 < (s0_0.length : Int)) = false := decide_eq_false c2
 clear c2
 simp only [Option.some.injEq, Prod.mk.injEq] at H
 obtain ⟨rfl, rfl, rfl⟩ := H
 obtain ⟨ASz5_0, cSz5_0, HGz5, hgz5, HSz5_0⟩ := HI0.out
 have hcz5_0 := cellS159_0 HGz5
 have hcz5_1 := cellS159_1 HGz5
 have hcz5_2 := cellS159_2 HGz5
 have hfz5_1 := blk_frozen HGz5 1
 have hfz5_2 := blk_frozen HGz5 2
 clear HGz5 hgz5
 go_enter Try.func127, Try.ntmps127
 go_wp2
 repeat (go_quiet (fail); try go_wp2)
 go_ret
 exact ⟨tE, by repeat (first | (with_reducible first | exact HI0.out | apply IsS159.alloc | apply IsS159.drewN | apply IsS159.drew | apply IsS159.set_1 | apply IsS159.set_2) | exact HI0.out), by repeat (first | (with_reducible first | exact HB.out | apply below_alloc | apply pw_below_drewN | apply below_drew1 | refine below_set ?_ (IsS159.ge HI0.out)) | exact HB.out), by repeat (first | (with_reducible first | exact HK.out | apply KeepBut.set_ | apply keep_drewN | apply keep_drew | apply keep_alloc) | exact HK.out)⟩

/-! ### spec_l1Below: function 111 -/
def spec_l1Below.f (s0_0 : List Int) (s0_1 : Int) (s0_2 : Int) (a1 : Int) : Option (Int × Int × Int) := if a1 ≤ 0 then (some (0, s0_1, s0_2)) else (if a1 ≤ 256 then ((spec_l1Byte.f s0_0 s0_1 s0_2).bind fun bt258 => (if a1 = 0 then (none) else (some (Int.tmod bt258.1 a1, bt258.2.1, bt258.2.2)))) else ((spec_l1Byte.f s0_0 s0_1 s0_2).bind fun bt261 => ((spec_l1Byte.f s0_0 bt261.2.1 bt261.2.2).bind fun bt264 => ((spec_l1Byte.f s0_0 bt264.2.1 bt264.2.2).bind fun bt267 => (if a1 = 0 then (none) else (some (Int.tmod (wrap64 ((wrap64 ((wrap64 (bt261.1 * 65536)) + (wrap64 (bt264.1 * 256)))) + bt267.1)) a1, bt267.2.1, bt267.2.2)))))))
set_option maxHeartbeats 8000000 in
set_option maxRecDepth 100000 in
theorem spec_l1Below.calls (g : Nat) (s0_0 : List Int) (s0_1 : Int) (s0_2 : Int) (a1 : Int) (r1 : Int) (r2 : Int) (r3 : Int) (w0 w : World) (hI : IsS159 w0 w g s0_0 s0_1 s0_2) (hB : Below w0.heap.size w0 w) (h : spec_l1Below.f s0_0 s0_1 s0_2 a1 = some (r1, r2, r3)) :
  Calls Try.prog 111 #[.pointer (some ⟨g, 0, none⟩), .int .i64 a1] w fun e w' => e = .returned (.int .i64 r1) ∧ IsS159 w0 w' g s0_0 r2 r3 ∧ Below w0.heap.size w0 w' ∧ KeepBut w w' g none := by
 have HI0 := Aside0.mk hI
 have HK := Aside0.mk (KeepBut.refl w g none)
 have HL := Aside0.mk hB.size
 clear hI
 have HW0 := Aside0.mk hB.size
 have HB := Aside0.mk hB
 clear hB
 have H : (if a1 ≤ 0 then (some (0, s0_1, s0_2)) else (if a1 ≤ 256 then ((spec_l1Byte.f s0_0 s0_1 s0_2).bind fun bt258 => (if a1 = 0 then (none) else (some (Int.tmod bt258.1 a1, bt258.2.1, bt258.2.2)))) else ((spec_l1Byte.f s0_0 s0_1 s0_2).bind fun bt261 => ((spec_l1Byte.f s0_0 bt261.2.1 bt261.2.2).bind fun bt264 => ((spec_l1Byte.f s0_0 bt264.2.1 bt264.2.2).bind fun bt267 => (if a1 = 0 then (none) else (some (Int.tmod (wrap64 ((wrap64 ((wrap64 (bt261.1 * 65536)) + (wrap64 (bt264.1 * 256)))) + bt267.1)) a1, bt267.2.1, bt267.2.2)))))))) = some (r1, r2, r3) := h
 clear h
 by_cases c3 : a1 ≤ 0
 ·rw [if_pos c3] at H
  have c3b0 : decide (a1 ≤ 0) = true := decide_eq_true c3
  clear c3
  simp only [Option.some.injEq, Prod.mk.injEq] at H
  obtain ⟨rfl, rfl, rfl⟩ := H
  go_enter Try.func111, Try.ntmps111
  go_wp2
  go_ret
  exact ⟨tE, by repeat (first | (with_reducible first | exact HI0.out | apply IsS159.alloc | apply IsS159.drewN | apply IsS159.drew | apply IsS159.set_1 | apply IsS159.set_2) | exact HI0.out), by repeat (first | (with_reducible first | exact HB.out | apply below_alloc | apply pw_below_drewN | apply below_drew1 | refine below_set ?_ (IsS159.ge HI0.out)) | exact HB.out), by repeat (first | (with_reducible first | exact HK.out | apply KeepBut.set_ | apply keep_drewN | apply keep_drew | apply keep_alloc) | exact HK.out)⟩
 rw [if_neg c3] at H
 have c3b0 : decide (a1 ≤ 0) = false := decide_eq_false c3
 clear c3
 by_cases c4 : a1 ≤ 256
 ·rw [if_pos c4] at H
  have c4b0 : decide (a1 ≤ 256) = true := decide_eq_true c4
  clear c4
  replace H := Option.bind_eq_some_iff.mp H
  obtain ⟨⟨t258, t259, t260⟩, A50, H⟩ := H
  try dsimp only at H
  have A5 := Aside0.mk A50
  clear A50
  by_cases c6 : a1 = 0
  ·rw [if_pos c6] at H
   exact absurd H (by simp)
  rw [if_neg c6] at H
  have c6b0 : (a1 == 0) = false := beq_eq_false_iff_ne.mpr c6
  have c6b1 : (a1 != 0) = true := bne_iff_ne.mpr c6
  simp only [Option.some.injEq, Prod.mk.injEq] at H
  obtain ⟨rfl, rfl, rfl⟩ := H
  go_enter Try.func111, Try.ntmps111
  go_wp2_with (first | ((with_reducible refine gate_callee (f := 127) rfl ?_); refine goesL_ (some 13) rfl rfl Try.func127 (by kernel_rfl) rfl #[.pointer (some ⟨g, 0, none⟩)] rfl tL ?_; (with_reducible refine (spec_l1Byte.calls g s0_0 s0_1 s0_2 t258 t259 t260 w0 _ ?side1 ?side2 A5.out).mono ?_); (case side1 => repeat (first | (with_reducible first | exact HI0.out | apply IsS159.alloc | apply IsS159.drewN | apply IsS159.drew | apply IsS159.set_1 | apply IsS159.set_2) | exact HI0.out)); (case side2 => repeat (first | (with_reducible first | exact HB.out | apply below_alloc | apply pw_below_drewN | apply below_drew1 | refine below_set ?_ (IsS159.ge HI0.out)) | exact HB.out)); rintro e w7 ⟨rfl, hi, hb, hk⟩; refine ⟨_, rfl, ?_⟩; replace HK := Aside0.mk (KeepBut.trans (by repeat (first | (with_reducible first | exact HK.out | apply KeepBut.set_ | apply keep_drewN | apply keep_drew | apply keep_alloc) | exact HK.out)) hk (.inl rfl)); replace HB := Aside0.mk (hb); replace HI0 := Aside0.mk (hi); (try clear hb); (try clear hb2); (try clear hk); (try clear hi)))
  go_ret
  exact ⟨tE, by repeat (first | (with_reducible first | exact HI0.out | apply IsS159.alloc | apply IsS159.drewN | apply IsS159.drew | apply IsS159.set_1 | apply IsS159.set_2) | exact HI0.out), by repeat (first | (with_reducible first | exact HB.out | apply below_alloc | apply pw_below_drewN | apply below_drew1 | refine below_set ?_ (IsS159.ge HI0.out)) | exact HB.out), by repeat (first | (with_reducible first | exact HK.out | apply KeepBut.set_ | apply keep_drewN | apply keep_drew | apply keep_alloc) | exact HK.out)⟩
 rw [if_neg c4] at H
 have c4b0 : decide (a1 ≤ 256) = false := decide_eq_false c4
 clear c4
 replace H := Option.bind_eq_some_iff.mp H
 obtain ⟨⟨t261, t262, t263⟩, A80, H⟩ := H
 try dsimp only at H
 have A8 := Aside0.mk A80
 clear A80
 replace H := Option.bind_eq_some_iff.mp H
 obtain ⟨⟨t264, t265, t266⟩, A90, H⟩ := H
 try dsimp only at H
 have A9 := Aside0.mk A90
 clear A90
 replace H := Option.bind_eq_some_iff.mp H
 obtain ⟨⟨t267, t268, t269⟩, A100, H⟩ := H
 try dsimp only at H
 have A10 := Aside0.mk A100
 clear A100
 by_cases c11 : a1 = 0
 ·rw [if_pos c11] at H
  exact absurd H (by simp)
 rw [if_neg c11] at H
 have c11b0 : (a1 == 0) = false := beq_eq_false_iff_ne.mpr c11
 have c11b1 : (a1 != 0) = true := bne_iff_ne.mpr c11
 simp only [Option.some.injEq, Prod.mk.injEq] at H
 obtain ⟨rfl, rfl, rfl⟩ := H
 go_enter Try.func111, Try.ntmps111
 go_wp2_with (first | ((with_reducible refine gate_callee (f := 127) rfl ?_); refine goesL_ (some 17) rfl rfl Try.func127 (by kernel_rfl) rfl #[.pointer (some ⟨g, 0, none⟩)] rfl tL ?_; (with_reducible refine (spec_l1Byte.calls g s0_0 s0_1 s0_2 t261 t262 t263 w0 _ ?side1 ?side2 A8.out).mono ?_); (case side1 => repeat (first | (with_reducible first | exact HI0.out | apply IsS159.alloc | apply IsS159.drewN | apply IsS159.drew | apply IsS159.set_1 | apply IsS159.set_2) | exact HI0.out)); (case side2 => repeat (first | (with_reducible first | exact HB.out | apply below_alloc | apply pw_below_drewN | apply below_drew1 | refine below_set ?_ (IsS159.ge HI0.out)) | exact HB.out)); rintro e w12 ⟨rfl, hi, hb, hk⟩; refine ⟨_, rfl, ?_⟩; replace HK := Aside0.mk (KeepBut.trans (by repeat (first | (with_reducible first | exact HK.out | apply KeepBut.set_ | apply keep_drewN | apply keep_drew | apply keep_alloc) | exact HK.out)) hk (.inl rfl)); replace HB := Aside0.mk (hb); replace HI0 := Aside0.mk (hi); (try clear hb); (try clear hb2); (try clear hk); (try clear hi)) | ((with_reducible refine gate_callee (f := 127) rfl ?_); refine goesL_ (some 19) rfl rfl Try.func127 (by kernel_rfl) rfl #[.pointer (some ⟨g, 0, none⟩)] rfl tL ?_; (with_reducible refine (spec_l1Byte.calls g s0_0 t262 t263 t264 t265 t266 w0 _ ?side1 ?side2 A9.out).mono ?_); (case side1 => repeat (first | (with_reducible first | exact HI0.out | apply IsS159.alloc | apply IsS159.drewN | apply IsS159.drew | apply IsS159.set_1 | apply IsS159.set_2) | exact HI0.out)); (case side2 => repeat (first | (with_reducible first | exact HB.out | apply below_alloc | apply pw_below_drewN | apply below_drew1 | refine below_set ?_ (IsS159.ge HI0.out)) | exact HB.out)); rintro e w13 ⟨rfl, hi, hb, hk⟩; refine ⟨_, rfl, ?_⟩; replace HK := Aside0.mk (KeepBut.trans (by repeat (first | (with_reducible first | exact HK.out | apply KeepBut.set_ | apply keep_drewN | apply keep_drew | apply keep_alloc) | exact HK.out)) hk (.inl rfl)); replace HB := Aside0.mk (hb); replace HI0 := Aside0.mk (hi); (try clear hb); (try clear hb2); (try clear hk); (try clear hi)) | ((with_reducible refine gate_callee (f := 127) rfl ?_); refine goesL_ (some 21) rfl rfl Try.func127 (by kernel_rfl) rfl #[.pointer (some ⟨g, 0, none⟩)] rfl tL ?_; (with_reducible refine (spec_l1Byte.calls g s0_0 t265 t266 t267 t268 t269 w0 _ ?side1 ?side2 A10.out).mono ?_); (case side1 => repeat (first | (with_reducible first | exact HI0.out | apply IsS159.alloc | apply IsS159.drewN | apply IsS159.drew | apply IsS159.set_1 | apply IsS159.set_2) | exact HI0.out)); (case side2 => repeat (first | (with_reducible first | exact HB.out | apply below_alloc | apply pw_below_drewN | apply below_drew1 | refine below_set ?_ (IsS159.ge HI0.out)) | exact HB.out)); rintro e w14 ⟨rfl, hi, hb, hk⟩; refine ⟨_, rfl, ?_⟩; replace HK := Aside0.mk (KeepBut.trans (by repeat (first | (with_reducible first | exact HK.out | apply KeepBut.set_ | apply keep_drewN | apply keep_drew | apply keep_alloc) | exact HK.out)) hk (.inl rfl)); replace HB := Aside0.mk (hb); replace HI0 := Aside0.mk (hi); (try clear hb); (try clear hb2); (try clear hk); (try clear hi)))
 go_ret
 exact ⟨tE, by repeat (first | (with_reducible first | exact HI0.out | apply IsS159.alloc | apply IsS159.drewN | apply IsS159.drew | apply IsS159.set_1 | apply IsS159.set_2) | exact HI0.out), by repeat (first | (with_reducible first | exact HB.out | apply below_alloc | apply pw_below_drewN | apply below_drew1 | refine below_set ?_ (IsS159.ge HI0.out)) | exact HB.out), by repeat (first | (with_reducible first | exact HK.out | apply KeepBut.set_ | apply keep_drewN | apply keep_drew | apply keep_alloc) | exact HK.out)⟩

/-! ### spec_l1Int: function 112 -/
def spec_l1Int.f (s0_0 : List Int) (s0_1 : Int) (s0_2 : Int) (l1 : List Int) : Option (Int × Int × Int) := (spec_l1Below.f s0_0 s0_1 s0_2 (l1.length : Int)).bind fun bt270 => (if 0 ≤ bt270.1 then (if bt270.1 < (l1.length : Int) then (some (rd l1 bt270.1, bt270.2.1, bt270.2.2)) else (none)) else (none))
set_option maxHeartbeats 8000000 in
set_option maxRecDepth 100000 in
theorem spec_l1Int.calls (g : Nat) (s0_0 : List Int) (s0_1 : Int) (s0_2 : Int) (A1 : Option Addr) (c1 : Nat) (l1 : List Int) (r1 : Int) (r2 : Int) (r3 : Int) (w0 w : World) (hI : IsS159 w0 w g s0_0 s0_1 s0_2) (hB : Below w0.heap.size w0 w) (hr1 : Kd.C (Kd.int .i64) w A1 l1.length l1) (hc1 : l1.length ≤ c1) (hf1 : ∀ ad, A1 = some ad → 0 < l1.length → ad.block ≠ g) (h : spec_l1Int.f s0_0 s0_1 s0_2 l1 = some (r1, r2, r3)) :
  Calls Try.prog 112 #[.pointer (some ⟨g, 0, none⟩), .slice A1 l1.length c1] w fun e w' => e = .returned (.int .i64 r1) ∧ IsS159 w0 w' g s0_0 r2 r3 ∧ Below w0.heap.size w0 w' ∧ KeepBut w w' g none := by
 have HR1 := Aside0.mk hr1
 have HC1 := Aside0.mk hc1
 clear hr1 hc1
 have HI0 := Aside0.mk hI
 have HK := Aside0.mk (KeepBut.refl w g none)
 have HL := Aside0.mk hB.size
 clear hI
 have HW0 := Aside0.mk hB.size
 have HB := Aside0.mk hB
 clear hB
 have H : ((spec_l1Below.f s0_0 s0_1 s0_2 (l1.length : Int)).bind fun bt270 => (if 0 ≤ bt270.1 then (if bt270.1 < (l1.length : Int) then (some (rd l1 bt270.1, bt270.2.1, bt270.2.2)) else (none)) else (none))) = some (r1, r2, r3) := h
 clear h
 replace H := Option.bind_eq_some_iff.mp H
 obtain ⟨⟨t270, t271, t272⟩, A30, H⟩ := H
 try dsimp only at H
 have A3 := Aside0.mk A30
 clear A30
 by_cases c4 : 0 ≤ t270
 ·rw [if_pos c4] at H
  have c4b0 : decide (0 ≤ t270) = true := decide_eq_true c4
  clear c4
  by_cases c5 : t270 < (l1.length : Int)
  ·rw [if_pos c5] at H
   have c5b0 : decide (t270 < (l1.length : Int)) = true := decide_eq_true c5
   clear c5
   simp only [Option.some.injEq, Prod.mk.injEq] at H
   obtain ⟨rfl, rfl, rfl⟩ := H
   go_enter Try.func112, Try.ntmps112
   go_wp2_with (first | ((with_reducible refine gate_callee (f := 111) rfl ?_); refine goesL_ (some 9) rfl rfl Try.func111 (by kernel_rfl) rfl #[.pointer (some ⟨g, 0, none⟩), .int .i64 (l1.length : Int)] rfl tL ?_; (with_reducible refine (spec_l1Below.calls g s0_0 s0_1 s0_2 (l1.length : Int) t270 t271 t272 w0 _ ?side1 ?side2 A3.out).mono ?_); (case side1 => repeat (first | (with_reducible first | exact HI0.out | apply IsS159.alloc | apply IsS159.drewN | apply IsS159.drew | apply IsS159.set_1 | apply IsS159.set_2) | exact HI0.out)); (case side2 => repeat (first | (with_reducible first | exact HB.out | apply below_alloc | apply pw_below_drewN | apply below_drew1 | refine below_set ?_ (IsS159.ge HI0.out)) | exact HB.out)); rintro e w6 ⟨rfl, hi, hb, hk⟩; refine ⟨_, rfl, ?_⟩; replace HK := Aside0.mk (KeepBut.trans (by repeat (first | (with_reducible first | exact HK.out | apply KeepBut.set_ | apply keep_drewN | apply keep_drew | apply keep_alloc) | exact HK.out)) hk (.inl rfl)); replace HB := Aside0.mk (hb); replace HI0 := Aside0.mk (hi); (try clear hb); (try clear hb2); (try clear hk); (try clear hi); have p273 : 0 ≤ (t270 : Int) := of_decide_eq_true tA; have q273 : t270 < (l1.length : Int) := of_decide_eq_true tA; obtain ⟨ad273, e273, hx273_0⟩ := Kd.at_int HR1.out t270 p273 q273; cases e273; replace hx273_0 := keep_cell HK.out hx273_0 (by first | (rw [add_block]; exact hf1 _ rfl (by omega)) | exact hf1 _ rfl (by omega) | exact hf1 ad273 rfl (by omega)); replace p273 := eq_true p273; replace q273 := eq_true q273))
   go_ret
   exact ⟨tE, by repeat (first | (with_reducible first | exact HI0.out | apply IsS159.alloc | apply IsS159.drewN | apply IsS159.drew | apply IsS159.set_1 | apply IsS159.set_2) | exact HI0.out), by repeat (first | (with_reducible first | exact HB.out | apply below_alloc | apply pw_below_drewN | apply below_drew1 | refine below_set ?_ (IsS159.ge HI0.out)) | exact HB.out), by repeat (first | (with_reducible first | exact HK.out | apply KeepBut.set_ | apply keep_drewN | apply keep_drew | apply keep_alloc) | exact HK.out)⟩
  rw [if_neg c5] at H
  exact absurd H (by simp)
 rw [if_neg c4] at H
 exact absurd H (by simp)

/-! ### spec_l1Once: function 126 -/
def spec_l1Once.f (s0_0 : List Int) (s0_1 : Int) (s0_2 : Int) (a1 : Int) : Option (Bool × Int × Int) := (spec_l1Below.f s0_0 s0_1 s0_2 a1).bind fun bt274 => (some ((bt274.1 == 0), bt274.2.1, bt274.2.2))
set_option maxHeartbeats 8000000 in
set_option maxRecDepth 100000 in
theorem spec_l1Once.calls (g : Nat) (s0_0 : List Int) (s0_1 : Int) (s0_2 : Int) (a1 : Int) (r1 : Bool) (r2 : Int) (r3 : Int) (w0 w : World) (hI : IsS159 w0 w g s0_0 s0_1 s0_2) (hB : Below w0.heap.size w0 w) (h : spec_l1Once.f s0_0 s0_1 s0_2 a1 = some (r1, r2, r3)) :
  Calls Try.prog 126 #[.pointer (some ⟨g, 0, none⟩), .int .i64 a1] w fun e w' => e = .returned (.bool r1) ∧ IsS159 w0 w' g s0_0 r2 r3 ∧ Below w0.heap.size w0 w' ∧ KeepBut w w' g none := by
 have HI0 := Aside0.mk hI
 have HK := Aside0.mk (KeepBut.refl w g none)
 have HL := Aside0.mk hB.size
 clear hI
 have HW0 := Aside0.mk hB.size
 have HB := Aside0.mk hB
 clear hB
 have H : ((spec_l1Below.f s0_0 s0_1 s0_2 a1).bind fun bt274 => (some ((bt274.1 == 0), bt274.2.1, bt274.2.2))) = some (r1, r2, r3) := h
 clear h
 replace H := Option.bind_eq_some_iff.mp H
 obtain ⟨⟨t274, t275, t276⟩, A30, H⟩ := H
 try dsimp only at H
 have A3 := Aside0.mk A30
 clear A30
 simp only [Option.some.injEq, Prod.mk.injEq] at H
 obtain ⟨rfl, rfl, rfl⟩ := H
 go_enter Try.func126, Try.ntmps126
 go_wp2_with (first | ((with_reducible refine gate_callee (f := 111) rfl ?_); refine goesL_ (some 7) rfl rfl Try.func111 (by kernel_rfl) rfl #[.pointer (some ⟨g, 0, none⟩), .int .i64 a1] rfl tL ?_; (with_reducible refine (spec_l1Below.calls g s0_0 s0_1 s0_2 a1 t274 t275 t276 w0 _ ?side1 ?side2 A3.out).mono ?_); (case side1 => repeat (first | (with_reducible first | exact HI0.out | apply IsS159.alloc | apply IsS159.drewN | apply IsS159.drew | apply IsS159.set_1 | apply IsS159.set_2) | exact HI0.out)); (case side2 => repeat (first | (with_reducible first | exact HB.out | apply below_alloc | apply pw_below_drewN | apply below_drew1 | refine below_set ?_ (IsS159.ge HI0.out)) | exact HB.out)); rintro e w4 ⟨rfl, hi, hb, hk⟩; refine ⟨_, rfl, ?_⟩; replace HK := Aside0.mk (KeepBut.trans (by repeat (first | (with_reducible first | exact HK.out | apply KeepBut.set_ | apply keep_drewN | apply keep_drew | apply keep_alloc) | exact HK.out)) hk (.inl rfl)); replace HB := Aside0.mk (hb); replace HI0 := Aside0.mk (hi); (try clear hb); (try clear hb2); (try clear hk); (try clear hi)))
 go_ret
 exact ⟨tE, by repeat (first | (with_reducible first | exact HI0.out | apply IsS159.alloc | apply IsS159.drewN | apply IsS159.drew | apply IsS159.set_1 | apply IsS159.set_2) | exact HI0.out), by repeat (first | (with_reducible first | exact HB.out | apply below_alloc | apply pw_below_drewN | apply below_drew1 | refine below_set ?_ (IsS159.ge HI0.out)) | exact HB.out), by repeat (first | (with_reducible first | exact HK.out | apply KeepBut.set_ | apply keep_drewN | apply keep_drew | apply keep_alloc) | exact HK.out)⟩

end Go.Proofs.Ytanoaneoanpkkaa.ZFnNotices
