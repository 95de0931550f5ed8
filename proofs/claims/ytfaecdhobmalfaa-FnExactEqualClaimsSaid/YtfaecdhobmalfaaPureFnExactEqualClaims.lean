/- The program's EqualClaims returns what the reference's returns, for all arguments that the row lets in; no condition besides. Here: the plain side, over the printed functions. -/
import Derived.Test.YtfaecdhobmalfaaPFnExactEqualClaimsx5
import Derived.Test.YtfaecdhobmalfaaKit
namespace Go.Proofs.Ytfaecdhobmalfaa.Pure
open Go.RowKit Go.Proofs.Ytfaecdhobmalfaa.PFnExactEqualClaims Go.Proofs.YtfaecdhobmalfaaW.PrintWords Go.Proofs.YtfaecdhobmalfaaW.PrintLast Go.Proofs.YtfaecdhobmalfaaW.PrintMore Go.Proofs.Ytfaecdhobmalfaa.Kit
set_option linter.unusedVariables false
set_option linter.unusedSimpArgs false

/-- What is known of a Claim that came in. -/
def W124 (x : S124) : Prop := ((Lit.int .i64 x.f0).wf = true) ∧ ((Lit.int .i64 x.f1).wf = true) ∧ ((Lit.int .i64 x.f2).wf = true) ∧ ((Lit.int .i64 x.f3).wf = true) ∧ ((Lit.int .i64 x.f4).wf = true) ∧ ((Lit.int .i64 x.f5).wf = true)
/-- What is to be proved of the printed functions. -/
def Claim : Prop := ∀ (a0_0 : Int), ∀ (l0_1 : List (S124)), ∀ (a1_0 : Int), ∀ (l1_1 : List (S124)), ((Lit.int .i64 a0_0).wf = true) → (l0_1.length ≤ maxLen ∧ ∀ y_ ∈ l0_1, W124 y_) → ((Lit.int .i64 a1_0).wf = true) → (l1_1.length ≤ maxLen ∧ ∀ y_ ∈ l1_1, W124 y_) → ∃ k, laws_FnExactEqualClaims.f k a0_0 l0_1 a1_0 l1_1 = some true

theorem laws_szClaimS.fits (l : List S124) (n : Int) (h0 : n ≤ 1048576) (h : (l.length : Int) ≤ n) : laws_szClaimS.f l n = some (n - l.length) := by
  unfold laws_szClaimS.f
  rw [wrap_in (by omega) (by omega), if_neg (by omega)]
theorem laws_szClaimS.big (l : List S124) (n : Int) (h0 : n ≤ 1048576) (h : n < (l.length : Int)) (h1 : 0 ≤ n) (hl : l.length ≤ maxLen) : laws_szClaimS.f l n = some (-1) := by
  unfold maxLen at hl
  unfold laws_szClaimS.f
  rw [wrap_in (by omega) (by omega), if_pos (by omega)]

theorem laws_szClaimList.fits (a0 : Int) (l : List S124) (n : Int) (h0 : n ≤ 1048576) (h : (l.length : Int) ≤ n) : laws_szClaimList.f a0 l n = some (n - l.length) := by
  unfold laws_szClaimList.f
  rw [laws_szClaimS.fits l n h0 h]
  simp only [Option.bind_some]
  rw [if_neg (by omega)]
theorem laws_szClaimList.big (a0 : Int) (l : List S124) (n : Int) (h0 : n ≤ 1048576) (h : n < (l.length : Int)) (h1 : 0 ≤ n) (hl : l.length ≤ maxLen) : laws_szClaimList.f a0 l n = some (-1) := by
  unfold laws_szClaimList.f
  rw [laws_szClaimS.big l n h0 h h1 hl]
  rfl

def cvClaim (x : S124) : S107 := ⟨x.f0, x.f1, x.f2, x.f3, x.f4, x.f5⟩

theorem laws_toClaimS.ev (l : List S124) (hl : l.length ≤ 1048576) : Ev (fun k => laws_toClaimS.f k l) (l.map cvClaim) := by
  unfold laws_toClaimS.f
  refine ev_pos (by omega) (ev_pos (by omega) ?_)
  refine fill (xs := l) cvClaim (fun k s i => laws_toClaimS.l0 k l s i) (fun s hs => ?_) (fun i h s hs r ih => ?_) (List.replicate ((l.length : Int)).toNat z107) (by simp)
  · refine Ev.step (fun k => by rw [laws_toClaimS.l0]) ?_
    exact ev_neg (by omega) (Ev.now _)
  · refine Ev.step (fun k => by rw [laws_toClaimS.l0]) ?_
    refine ev_pos (by omega) (ev_pos (by omega) (ev_bindc rfl (ev_pos (by omega) ?_)))
    simp only [rd_T124, Int.toNat_natCast, getD_nat h, wrap_succ (show i < 4611686018427387904 by omega)]
    exact ih

theorem laws_toClaimList.ev (a0 : Int) (l : List S124) (hl : l.length ≤ 1048576) : Ev (fun k => laws_toClaimList.f k a0 l) (a0, l.map cvClaim) := by
  unfold laws_toClaimList.f
  exact Ev.bind (laws_toClaimS.ev l (by omega)) (Ev.now _)

theorem laws_eqClaimS.ev (l : List S107) (hl : l.length < 4611686018427387904) : Ev (fun k => laws_eqClaimS.f k l l) true := by
  unfold laws_eqClaimS.f
  refine ev_pos rfl ?_
  refine scan0 (xs := l) (fun k (_ : Unit) i => laws_eqClaimS.l0 k l l i) (fun _ _ => true) (fun s => ?_) (fun i h s ih => ?_) ()
  · refine Ev.step (fun k => by rw [laws_eqClaimS.l0]) ?_
    exact ev_neg (by omega) (Ev.now _)
  · refine Ev.step (fun k => by rw [laws_eqClaimS.l0]) ?_
    refine ev_pos (by omega) (ev_pos (by omega) (ev_pos (by omega) (ev_bindc (a := true) (by simp [laws_eqClaim.f]) (ev_pos rfl ?_))))
    rw [wrap_succ (by omega)]
    exact ih ()

theorem laws_eqClaimList.ev (a0 : Int) (l : List S107) (hl : l.length < 4611686018427387904) : Ev (fun k => laws_eqClaimList.f k a0 l a0 l) true := by
  unfold laws_eqClaimList.f
  refine ev_pos rfl ?_
  refine Ev.bind (laws_eqClaimS.ev l hl) (ev_pos rfl ?_)
  exact Ev.now _

def claimSame (l m : List S107) (i : Nat) : Prop := (rd_T107 l i).f0 = (rd_T107 m i).f0 ∧ (rd_T107 l i).f1 = (rd_T107 m i).f1 ∧ (rd_T107 l i).f2 = (rd_T107 m i).f2 ∧ (rd_T107 l i).f3 = (rd_T107 m i).f3 ∧ (rd_T107 l i).f4 = (rd_T107 m i).f4 ∧ (rd_T107 l i).f5 = (rd_T107 m i).f5
instance (l m : List S107) (i : Nat) : Decidable (claimSame l m i) := by unfold claimSame; infer_instance
noncomputable def eqClaimsV (a : Int) (l : List S107) (b : Int) (m : List S107) : Bool := if a = b then (if ((l.length : Int) != (m.length : Int)) = true then false else dec ((∀ i, i < l.length → claimSame l m i) ∧ True)) else false

theorem spec_EqualClaims.ev (a : Int) (l : List S107) (b : Int) (m : List S107) (hl : l.length < 4611686018427387904) : Ev (fun k => spec_EqualClaims.f k a l b m) (eqClaimsV a l b m) := by
  unfold spec_EqualClaims.f eqClaimsV
  refine ev_ite (fun e => ?_) (fun e => ?_)
  · refine Ev.step (fun k => by rw [spec_EqualClaims.j0]) ?_
    refine ev_ite (fun e => Ev.now _) (fun e => ?_)
    have e' : l.length = m.length := by simp at e; omega
    refine scan_all (n := l.length) (fun k i => spec_EqualClaims.l0 k i a l b m) (claimSame l m) True ?_ (fun i hi q r ih => ?_) (fun i hi q => ?_)
    · refine Ev.step (fun k => by rw [spec_EqualClaims.l0]) ?_
      rw [dec_true trivial]
      exact ev_neg (by omega) (Ev.now _)
    · obtain ⟨q0, q1, q2, q3, q4, q5⟩ := q
      refine Ev.step (fun k => by rw [spec_EqualClaims.l0]) ?_
      refine ev_pos (by omega) (ev_pos (by omega) (ev_pos (by omega) (ev_neg (by simp [q0, q1, q2, q3, q4, q5]) ?_)))
      rw [wrap_succ (by omega)]
      exact ih
    · refine Ev.step (fun k => by rw [spec_EqualClaims.l0]) ?_
      refine ev_pos (by omega) (ev_pos (by omega) (ev_pos (by omega) (ev_pos ?_ (Ev.now _))))
      unfold claimSame at q
      simp only [Bool.or_eq_true, Bool.not_eq_true', beq_eq_false_iff_ne, ne_eq]
      omega
  · refine Ev.step (fun k => by rw [spec_EqualClaims.j0]) ?_
    exact ev_pos rfl (Ev.now _)

theorem impl_EqualClaims.ev (a : Int) (l : List S107) (b : Int) (m : List S107) (hl : l.length < 4611686018427387904) : Ev (fun k => impl_EqualClaims.f k a l b m) (eqClaimsV a l b m) := by
  unfold impl_EqualClaims.f eqClaimsV
  refine ev_ite (fun e => ?_) (fun e => ?_)
  · refine Ev.step (fun k => by rw [impl_EqualClaims.j0]) ?_
    refine ev_ite (fun e => Ev.now _) (fun e => ?_)
    have e' : l.length = m.length := by simp at e; omega
    refine scan_all (n := l.length) (fun k i => impl_EqualClaims.l0 k l.length i a l b m) (claimSame l m) True ?_ (fun i hi q r ih => ?_) (fun i hi q => ?_)
    · refine Ev.step (fun k => by rw [impl_EqualClaims.l0]) ?_
      rw [dec_true trivial]
      exact ev_neg (by omega) (Ev.now _)
    · obtain ⟨q0, q1, q2, q3, q4, q5⟩ := q
      refine Ev.step (fun k => by rw [impl_EqualClaims.l0]) ?_
      refine ev_pos (by omega) (ev_pos (by omega) (ev_pos (by omega) (ev_pos (by omega) (ev_neg (by simp [q0, q1, q2, q3, q4, q5]) ?_))))
      rw [wrap_succ (by omega)]
      exact ih
    · refine Ev.step (fun k => by rw [impl_EqualClaims.l0]) ?_
      refine ev_pos (by omega) (ev_pos (by omega) (ev_pos (by omega) (ev_pos (by omega) (ev_pos ?_ (Ev.now _)))))
      unfold claimSame at q
      simp only [Bool.or_eq_true, Bool.not_eq_true', beq_eq_false_iff_ne, ne_eq]
      omega
  · refine Ev.step (fun k => by rw [impl_EqualClaims.j0]) ?_
    exact ev_pos rfl (Ev.now _)

theorem FnExactEqualClaims : Claim := by
  intro a l b m _ ⟨hl, _⟩ _ ⟨hn, _⟩
  refine Ev.rounds (r := true) ?_
  unfold laws_FnExactEqualClaims.f
  by_cases h : (l.length : Int) ≤ 1048576
  · refine ev_bindc (laws_szClaimList.fits a l _ (by omega) h) (ev_neg (by omega) ?_)
    by_cases h2 : (m.length : Int) ≤ 1048576 - l.length
    · refine ev_bindc (laws_szClaimList.fits b m _ (by omega) h2) (ev_neg (by omega) ?_)
      have hl2 : (l.map cvClaim).length < 4611686018427387904 := by rw [List.length_map]; omega
      have hm2 : (m.map cvClaim).length < 4611686018427387904 := by rw [List.length_map]; omega
      refine Ev.bind (laws_toClaimList.ev a l (by omega)) (Ev.bind (laws_toClaimList.ev b m (by omega)) ?_)
      refine Ev.bind (spec_EqualClaims.ev _ _ _ _ hl2) ?_
      refine Ev.bind (laws_toClaimList.ev a l (by omega)) (Ev.bind (laws_toClaimList.ev b m (by omega)) ?_)
      refine Ev.bind (impl_EqualClaims.ev _ _ _ _ hl2) (ev_neg (by simp) ?_)
      refine Ev.bind (laws_toClaimList.ev a l (by omega)) (Ev.bind (laws_eqClaimList.ev _ _ hl2) (ev_pos rfl ?_))
      exact Ev.bind (laws_toClaimList.ev b m (by omega)) (Ev.bind (laws_eqClaimList.ev _ _ hm2) (ev_pos rfl (Ev.now _)))
    · exact ev_bindc (laws_szClaimList.big b m _ (by omega) (by omega) (by omega) hn) (ev_pos (by omega) (Ev.now _))
  · exact ev_bindc (laws_szClaimList.big a l _ (by omega) (by omega) (by omega) hl) (ev_pos (by omega) (Ev.now _))

end Go.Proofs.Ytfaecdhobmalfaa.Pure
