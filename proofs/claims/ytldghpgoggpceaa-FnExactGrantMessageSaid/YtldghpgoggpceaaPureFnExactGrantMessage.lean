/- The program's GrantMessage returns what the reference's returns, for all arguments that the row lets in; no condition besides. Here: the plain side, over the printed functions. -/
import Derived.Test.YtldghpgoggpceaaPFnExactGrantMessagex1
import Derived.Test.YtldghpgoggpceaaKit
namespace Go.Proofs.Ytldghpgoggpceaa.Pure
open Go.RowKit Go.Proofs.Ytldghpgoggpceaa.PFnExactGrantMessage Go.Proofs.YtldghpgoggpceaaW.PrintWords Go.Proofs.YtldghpgoggpceaaW.PrintLast Go.Proofs.YtldghpgoggpceaaW.PrintMore Go.Proofs.Ytldghpgoggpceaa.Kit
set_option linter.unusedVariables false
set_option linter.unusedSimpArgs false

/-- What is to be proved of the printed functions. -/
def Claim : Prop := ∀ (a0_0 : Int), ∀ (a0_1 : Int), ∀ (a0_2 : Int), ∀ (a0_3 : Int), ∀ (a0_4 : Int), ∀ (a0_5 : Int), ((Lit.int .i64 a0_0).wf = true) → ((Lit.int .i64 a0_1).wf = true) → ((Lit.int .i64 a0_2).wf = true) → ((Lit.int .i64 a0_3).wf = true) → ((Lit.int .i64 a0_4).wf = true) → ((Lit.int .i64 a0_5).wf = true) → ∃ k, laws_FnExactGrantMessage.f k a0_0 a0_1 a0_2 a0_3 a0_4 a0_5 = some true

theorem laws_eqIntS.ev (l : List Int) (hl : l.length < 4611686018427387904) : Ev (fun k => laws_eqIntS.f k l l) true := by
  unfold laws_eqIntS.f
  refine ev_pos rfl ?_
  refine scan0 (xs := l) (fun k (_ : Unit) i => laws_eqIntS.l0 k l l i) (fun _ _ => true) (fun s => ?_) (fun i h s ih => ?_) ()
  · refine Ev.step (fun k => by rw [laws_eqIntS.l0]) ?_
    exact ev_neg (by omega) (Ev.now _)
  · refine Ev.step (fun k => by rw [laws_eqIntS.l0]) ?_
    refine ev_pos (by omega) (ev_pos (by omega) (ev_pos (by omega) (ev_pos rfl ?_)))
    rw [wrap_succ (by omega)]
    exact ih ()

def mkInt (c : Int) (_ : Int) : Int × Int := (wrap64 (c + 1), c)
theorem mkInt_list (xs : List Int) (c : Int) (h0 : 0 ≤ c) (h : c + xs.length < 4611686018427387904) : (markL mkInt xs c).1 = c + xs.length := by
  have e : (xs.map (fun _ => 1)).sum = xs.length := by
    clear h
    induction xs with
    | nil => rfl
    | cons x xs ih => simp only [List.map_cons, List.sum_cons, ih, List.length_cons]; omega
  rw [markL_count mkInt (fun _ => 1) (fun c x h0 h => by simp only [mkInt]; unfold wrap64; omega) xs c h0 (by rw [e]; omega), e]

theorem laws_markIntS.ev (l : List Int) (c : Int) (hl : l.length < 4611686018427387904) : Ev (fun k => laws_markIntS.f k l c) (markL mkInt l c) := by
  unfold laws_markIntS.f
  have key : ∀ (d i : Nat) (s : List Int) (c : Int), s.length = l.length → i + d = l.length → Ev (fun k => laws_markIntS.l0 k s c (i : Int)) ((markL mkInt (s.drop i) c).1, s.take i ++ (markL mkInt (s.drop i) c).2) := by
    intro d
    induction d with
    | zero =>
      intro i s c hs hi
      rw [List.drop_of_length_le (by omega), List.take_of_length_le (by omega)]
      refine Ev.step (fun k => by rw [laws_markIntS.l0]) ?_
      refine ev_neg (by omega) ?_
      simpa [markL] using Ev.now (c, s)
    | succ d ih =>
      intro i s c hs hi
      have h : i < s.length := by omega
      have h' := ih (i + 1) (s.set i (mkInt c s[i]).2) (mkInt c s[i]).1 (by simp [hs]) (by omega)
      rw [List.drop_eq_getElem_cons h]
      have e1 : (s.set i (mkInt c s[i]).2).drop (i + 1) = s.drop (i + 1) := by rw [List.drop_set_of_lt (by omega)]
      have e2 : (s.set i (mkInt c s[i]).2).take (i + 1) = s.take i ++ [(mkInt c s[i]).2] := by
        rw [List.take_succ_eq_append_getElem (by simpa using h), List.take_set_of_le (by omega)]
        simp
      rw [e1, e2, List.append_assoc] at h'
      refine Ev.step (fun k => by rw [laws_markIntS.l0]) ?_
      refine ev_pos (by omega) (ev_pos (by omega) ?_)
      rw [Int.toNat_natCast, wrap_succ (show i < 4611686018427387904 by omega)]
      exact h'
  have := key l.length 0 l c rfl (by omega)
  simpa using this

theorem laws_heldIntS.ev (l : List Int) (c : Int) (hl : l.length < 4611686018427387904) : Ev (fun k => laws_heldIntS.f k (markL mkInt l c).2 c) (markL mkInt l c).1 := by
  unfold laws_heldIntS.f
  have key : ∀ (ys pre : List Int) (c : Int), pre.length + ys.length < 4611686018427387904 → Ev (fun k => laws_heldIntS.l0 k (pre ++ (markL mkInt ys c).2) c (pre.length : Int)) (markL mkInt ys c).1 := by
    intro ys
    induction ys with
    | nil =>
      intro pre c _
      refine Ev.step (fun k => by rw [laws_heldIntS.l0]) ?_
      refine ev_neg (by simp [markL]) ?_
      exact Ev.now _
    | cons y ys ih =>
      intro pre c hp
      have h' := ih (pre ++ [(mkInt c y).2]) (mkInt c y).1 (by simp at hp ⊢; omega)
      simp only [List.length_cons] at hp
      refine Ev.step (fun k => by rw [laws_heldIntS.l0]) ?_
      refine ev_pos (by simp [markL]; omega) (ev_pos (by omega) ?_)
      have e : rd (pre ++ (markL mkInt (y :: ys) c).2) (pre.length : Int) = (mkInt c y).2 := by simp [rd, markL]
      rw [e, wrap_succ (by omega)]
      simp only [mkInt, if_true]
      simpa [markL, mkInt] using h'
  have := key l [] c (by simpa using hl)
  simpa using this

theorem FnExactGrantMessage : Claim := by
  intro a b c d e f _ _ _ _ _ _
  refine Ev.rounds (r := true) ?_
  unfold laws_FnExactGrantMessage.f
  have hc := mkInt_list [263, a, b, c, d, e] 1 (by omega) (by simp)
  refine ev_bindc rfl (ev_bindc rfl (ev_bindc rfl (ev_bindc rfl ?_)))
  refine Ev.bind (laws_eqIntS.ev _ (by simp)) (ev_pos rfl ?_)
  refine Ev.bind (laws_markIntS.ev [263, a, b, c, d, e] 1 (by simp)) ?_
  refine Ev.bind (laws_heldIntS.ev [263, a, b, c, d, e] 1 (by simp)) ?_
  refine ev_neg (by rw [hc]; simp) (ev_pos rfl ?_)
  refine ev_bindc rfl (ev_bindc rfl ?_)
  refine Ev.bind (laws_eqIntS.ev _ (by simp)) (ev_pos rfl ?_)
  refine Ev.bind (laws_heldIntS.ev [263, a, b, c, d, e] 1 (by simp)) ?_
  exact ev_neg (by rw [hc]; simp) (ev_pos rfl (Ev.now _))

end Go.Proofs.Ytldghpgoggpceaa.Pure
