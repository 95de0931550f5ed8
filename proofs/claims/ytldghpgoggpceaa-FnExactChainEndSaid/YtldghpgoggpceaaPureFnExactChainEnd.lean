/- The program's ChainEnd returns what the reference's returns, for all arguments that the row lets in; no condition besides. Here: the plain side, over the printed functions. -/
import Derived.Test.YtldghpgoggpceaaPFnExactChainEndx2
import Derived.Test.YtldghpgoggpceaaKit
namespace Go.Proofs.Ytldghpgoggpceaa.Pure
open Go.RowKit Go.Proofs.Ytldghpgoggpceaa.PFnExactChainEnd Go.Proofs.YtldghpgoggpceaaW.PrintWords Go.Proofs.YtldghpgoggpceaaW.PrintLast Go.Proofs.YtldghpgoggpceaaW.PrintMore Go.Proofs.Ytldghpgoggpceaa.Kit
set_option linter.unusedVariables false
set_option linter.unusedSimpArgs false

/-- What is known of a Grant that came in. -/
def W25 (x : S25) : Prop := ((Lit.int .i64 x.f0).wf = true) ∧ ((Lit.int .i64 x.f1).wf = true) ∧ ((Lit.int .i64 x.f2).wf = true) ∧ ((Lit.int .i64 x.f3).wf = true) ∧ ((Lit.int .i64 x.f4).wf = true) ∧ ((Lit.int .i64 x.f5).wf = true)
/-- What is to be proved of the printed functions. -/
def Claim : Prop := ∀ (l0 : List (S25)), (l0.length ≤ maxLen ∧ ∀ y_ ∈ l0, W25 y_) → ∃ k, laws_FnExactChainEnd.f k l0 = some true

theorem laws_szGrantS.fits (l : List S25) (n : Int) (h0 : n ≤ 1048576) (h : (l.length : Int) ≤ n) : laws_szGrantS.f l n = some (n - l.length) := by
  unfold laws_szGrantS.f
  rw [wrap_in (by omega) (by omega), if_neg (by omega)]
theorem laws_szGrantS.big (l : List S25) (n : Int) (h0 : n ≤ 1048576) (h : n < (l.length : Int)) (h1 : 0 ≤ n) (hl : l.length ≤ maxLen) : laws_szGrantS.f l n = some (-1) := by
  unfold maxLen at hl
  unfold laws_szGrantS.f
  rw [wrap_in (by omega) (by omega), if_pos (by omega)]

def cvGrant (x : S25) : S28 := ⟨x.f0, x.f1, x.f2, x.f3, x.f4, x.f5⟩

theorem laws_toGrantS.ev (l : List S25) (hl : l.length ≤ 1048576) : Ev (fun k => laws_toGrantS.f k l) (l.map cvGrant) := by
  unfold laws_toGrantS.f
  refine ev_pos (by omega) (ev_pos (by omega) ?_)
  refine fill (xs := l) cvGrant (fun k s i => laws_toGrantS.l0 k l s i) (fun s hs => ?_) (fun i h s hs r ih => ?_) (List.replicate ((l.length : Int)).toNat z28) (by simp)
  · refine Ev.step (fun k => by rw [laws_toGrantS.l0]) ?_
    exact ev_neg (by omega) (Ev.now _)
  · refine Ev.step (fun k => by rw [laws_toGrantS.l0]) ?_
    refine ev_pos (by omega) (ev_pos (by omega) (ev_bindc rfl (ev_pos (by omega) ?_)))
    simp only [rd_T25, Int.toNat_natCast, getD_nat h, wrap_succ (show i < 4611686018427387904 by omega)]
    exact ih

theorem laws_eqGrantS.ev (l : List S28) (hl : l.length < 4611686018427387904) : Ev (fun k => laws_eqGrantS.f k l l) true := by
  unfold laws_eqGrantS.f
  refine ev_pos rfl ?_
  refine scan0 (xs := l) (fun k (_ : Unit) i => laws_eqGrantS.l0 k l l i) (fun _ _ => true) (fun s => ?_) (fun i h s ih => ?_) ()
  · refine Ev.step (fun k => by rw [laws_eqGrantS.l0]) ?_
    exact ev_neg (by omega) (Ev.now _)
  · refine Ev.step (fun k => by rw [laws_eqGrantS.l0]) ?_
    refine ev_pos (by omega) (ev_pos (by omega) (ev_pos (by omega) (ev_bindc (a := true) (by simp [laws_eqGrant.f]) (ev_pos rfl ?_))))
    rw [wrap_succ (by omega)]
    exact ih ()

def chainEndV : List S28 → Int
  | [] => -1
  | g :: gs => gs.foldl (fun m x => min m x.f3) g.f3

theorem spec_ChainEnd.ev (l : List S28) (hl : l.length < 4611686018427387904) : Ev (fun k => spec_ChainEnd.f k l) (chainEndV l) := by
  unfold spec_ChainEnd.f
  cases l with
  | nil =>
    refine Ev.step (fun k => by rw [spec_ChainEnd.l0]) ?_
    exact ev_neg (by simp) (Ev.now _)
  | cons g gs =>
    refine Ev.step (fun k => by rw [spec_ChainEnd.l0]) ?_
    refine ev_pos (by simp <;> omega) (ev_pos rfl (ev_pos (by omega) ?_))
    have key : ∀ (d i : Nat), i + d = gs.length → ∀ m, Ev (fun k => spec_ChainEnd.l0 k (g :: gs) m ((i + 1 : Nat) : Int)) ((gs.drop i).foldl (fun m x => min m x.f3) m) := by
      intro d
      induction d with
      | zero =>
        intro i hi m
        rw [List.drop_of_length_le (by omega)]
        refine Ev.step (fun k => by rw [spec_ChainEnd.l0]) ?_
        exact ev_neg (by simp <;> omega) (Ev.now _)
      | succ d ih =>
        intro i hi m
        have h : i < gs.length := by omega
        rw [List.drop_eq_getElem_cons h]
        simp only [List.length_cons] at hl
        refine Ev.step (fun k => by rw [spec_ChainEnd.l0]) ?_
        refine ev_pos (by simp <;> omega) (ev_neg (by omega) (ev_pos (by omega) ?_))
        have e : rd_T28 (g :: gs) ((i + 1 : Nat) : Int) = gs[i] := by
          rw [rd_T28, getD_get (by simp <;> omega)]
          simp
        rw [e, wrap_succ (by omega)]
        simp only [List.foldl_cons]
        refine ev_both (fun h1 => ?_) (fun h1 => ?_)
        · rw [show min m gs[i].f3 = gs[i].f3 by omega]
          exact ih (i + 1) (by omega) _
        · rw [show min m gs[i].f3 = m by omega]
          exact ih (i + 1) (by omega) _
    have := key gs.length 0 (by omega) g.f3
    have e : rd_T28 (g :: gs) 0 = g := rfl
    rw [e, show wrap64 (0 + 1) = ((0 + 1 : Nat) : Int) by unfold wrap64; omega]
    simpa [chainEndV] using this

theorem impl_ChainEnd.ev (l : List S28) (hl : l.length < 4611686018427387904) : Ev (fun k => impl_ChainEnd.f k l) (chainEndV l) := by
  unfold impl_ChainEnd.f
  cases l with
  | nil => exact ev_pos rfl (Ev.now _)
  | cons g gs =>
    refine ev_neg (by simp <;> omega) (ev_pos (by simp <;> omega) ?_)
    have e : rd_T28 (g :: gs) 0 = g := rfl
    rw [e]
    refine ev_eq (scan0 (xs := g :: gs) (fun k m i => impl_ChainEnd.l0 k m (g :: gs) ((g :: gs).length : Int) i) (fun ys m => ys.foldl (fun m x => min m x.f3) m) (fun s => ?_) (fun i h s ih => ?_) g.f3) ?_
    · refine Ev.step (fun k => by rw [impl_ChainEnd.l0]) ?_
      exact ev_neg (by omega) (Ev.now _)
    · refine Ev.step (fun k => by rw [impl_ChainEnd.l0]) ?_
      refine ev_pos (by omega) (ev_pos (by omega) (ev_pos (by omega) ?_))
      rw [rd_T28, getD_get h, wrap_succ (by omega)]
      have e : mn s (g :: gs)[i].f3 = min s (g :: gs)[i].f3 := by unfold mn; split <;> omega
      rw [e]
      exact ih _
    · simp [chainEndV]

theorem FnExactChainEnd : Claim := by
  intro l ⟨hl, _⟩
  refine Ev.rounds (r := true) ?_
  unfold laws_FnExactChainEnd.f
  by_cases h : (l.length : Int) ≤ 1048576
  · refine ev_bindc (laws_szGrantS.fits l _ (by omega) h) (ev_neg (by omega) ?_)
    have hm : (l.map cvGrant).length < 4611686018427387904 := by rw [List.length_map]; omega
    refine Ev.bind (laws_toGrantS.ev l (by omega)) ?_
    refine Ev.bind (spec_ChainEnd.ev _ hm) ?_
    refine Ev.bind (laws_toGrantS.ev l (by omega)) ?_
    refine Ev.bind (impl_ChainEnd.ev _ hm) (ev_pos rfl ?_)
    refine Ev.bind (laws_toGrantS.ev l (by omega)) ?_
    exact Ev.bind (laws_eqGrantS.ev _ hm) (ev_pos rfl (Ev.now _))
  · exact ev_bindc (laws_szGrantS.big l _ (by omega) (by omega) (by omega) hl) (ev_pos (by omega) (Ev.now _))

end Go.Proofs.Ytldghpgoggpceaa.Pure
