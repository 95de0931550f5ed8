/- The program's SharesKey returns what the reference's returns, for all arguments that the row lets in; no condition besides. Here: the plain side, over the printed functions. -/
import Derived.Test.YtfaecdhobmalfaaPFnExactSharesKeyx3
import Derived.Test.YtfaecdhobmalfaaKit
namespace Go.Proofs.Ytfaecdhobmalfaa.Pure
open Go.RowKit Go.Proofs.Ytfaecdhobmalfaa.PFnExactSharesKey Go.Proofs.YtfaecdhobmalfaaW.PrintWords Go.Proofs.YtfaecdhobmalfaaW.PrintLast Go.Proofs.YtfaecdhobmalfaaW.PrintMore Go.Proofs.Ytfaecdhobmalfaa.Kit
set_option linter.unusedVariables false
set_option linter.unusedSimpArgs false

/-- What is known of a Credential that came in. -/
def W127 (x : S127) : Prop := ((Lit.int .i64 x.f0).wf = true) ∧ ((Lit.int .i64 x.f1).wf = true) ∧ ((Lit.int .i64 x.f2).wf = true) ∧ (True)
/-- What is to be proved of the printed functions. -/
def Claim : Prop := ∀ (a0_0 : Int), ∀ (a0_1 : Int), ∀ (l0_2 : List (S127)), ∀ (a1_0 : Int), ∀ (a1_1 : Int), ∀ (l1_2 : List (S127)), ((Lit.int .i64 a0_0).wf = true) → ((Lit.int .i64 a0_1).wf = true) → (l0_2.length ≤ maxLen ∧ ∀ y_ ∈ l0_2, W127 y_) → ((Lit.int .i64 a1_0).wf = true) → ((Lit.int .i64 a1_1).wf = true) → (l1_2.length ≤ maxLen ∧ ∀ y_ ∈ l1_2, W127 y_) → ∃ k, laws_FnExactSharesKey.f k a0_0 a0_1 l0_2 a1_0 a1_1 l1_2 = some true

theorem laws_szCredentialS.fits (l : List S127) (n : Int) (h0 : n ≤ 1048576) (h : (l.length : Int) ≤ n) : laws_szCredentialS.f l n = some (n - l.length) := by
  unfold laws_szCredentialS.f
  rw [wrap_in (by omega) (by omega), if_neg (by omega)]
theorem laws_szCredentialS.big (l : List S127) (n : Int) (h0 : n ≤ 1048576) (h : n < (l.length : Int)) (h1 : 0 ≤ n) (hl : l.length ≤ maxLen) : laws_szCredentialS.f l n = some (-1) := by
  unfold maxLen at hl
  unfold laws_szCredentialS.f
  rw [wrap_in (by omega) (by omega), if_pos (by omega)]

theorem laws_szAccount.fits (a0 : Int) (a1 : Int) (l : List S127) (n : Int) (h0 : n ≤ 1048576) (h : (l.length : Int) ≤ n) : laws_szAccount.f a0 a1 l n = some (n - l.length) := by
  unfold laws_szAccount.f
  rw [laws_szCredentialS.fits l n h0 h]
  simp only [Option.bind_some]
  rw [if_neg (by omega)]
theorem laws_szAccount.big (a0 : Int) (a1 : Int) (l : List S127) (n : Int) (h0 : n ≤ 1048576) (h : n < (l.length : Int)) (h1 : 0 ≤ n) (hl : l.length ≤ maxLen) : laws_szAccount.f a0 a1 l n = some (-1) := by
  unfold laws_szAccount.f
  rw [laws_szCredentialS.big l n h0 h h1 hl]
  rfl

def cvCredential (x : S127) : S113 := ⟨x.f0, x.f1, x.f2, x.f3⟩

theorem laws_toCredentialS.ev (l : List S127) (hl : l.length ≤ 1048576) : Ev (fun k => laws_toCredentialS.f k l) (l.map cvCredential) := by
  unfold laws_toCredentialS.f
  refine ev_pos (by omega) (ev_pos (by omega) ?_)
  refine fill (xs := l) cvCredential (fun k s i => laws_toCredentialS.l0 k l s i) (fun s hs => ?_) (fun i h s hs r ih => ?_) (List.replicate ((l.length : Int)).toNat z113) (by simp)
  · refine Ev.step (fun k => by rw [laws_toCredentialS.l0]) ?_
    exact ev_neg (by omega) (Ev.now _)
  · refine Ev.step (fun k => by rw [laws_toCredentialS.l0]) ?_
    refine ev_pos (by omega) (ev_pos (by omega) (ev_bindc rfl (ev_pos (by omega) ?_)))
    simp only [rd_T127, Int.toNat_natCast, getD_nat h, wrap_succ (show i < 4611686018427387904 by omega)]
    exact ih

theorem laws_toAccount.ev (a0 : Int) (a1 : Int) (l : List S127) (hl : l.length ≤ 1048576) : Ev (fun k => laws_toAccount.f k a0 a1 l) (a0, a1, l.map cvCredential) := by
  unfold laws_toAccount.f
  exact Ev.bind (laws_toCredentialS.ev l (by omega)) (Ev.now _)

theorem laws_eqCredentialS.ev (l : List S113) (hl : l.length < 4611686018427387904) : Ev (fun k => laws_eqCredentialS.f k l l) true := by
  unfold laws_eqCredentialS.f
  refine ev_pos rfl ?_
  refine scan0 (xs := l) (fun k (_ : Unit) i => laws_eqCredentialS.l0 k l l i) (fun _ _ => true) (fun s => ?_) (fun i h s ih => ?_) ()
  · refine Ev.step (fun k => by rw [laws_eqCredentialS.l0]) ?_
    exact ev_neg (by omega) (Ev.now _)
  · refine Ev.step (fun k => by rw [laws_eqCredentialS.l0]) ?_
    refine ev_pos (by omega) (ev_pos (by omega) (ev_pos (by omega) (ev_bindc (a := true) (by simp [laws_eqCredential.f]) (ev_pos rfl ?_))))
    rw [wrap_succ (by omega)]
    exact ih ()

theorem laws_eqAccount.ev (a0 : Int) (a1 : Int) (l : List S113) (hl : l.length < 4611686018427387904) : Ev (fun k => laws_eqAccount.f k a0 a1 l a0 a1 l) true := by
  unfold laws_eqAccount.f
  refine ev_pos rfl ?_
  refine ev_pos rfl ?_
  refine Ev.bind (laws_eqCredentialS.ev l hl) (ev_pos rfl ?_)
  exact Ev.now _

noncomputable def hasKeyV (m : List S113) (p : Int) : Bool := dec (∃ j, j < m.length ∧ (rd_T113 m j).f1 = p)
noncomputable def sharesV (l m : List S113) : Bool := dec (∃ i, i < l.length ∧ hasKeyV m (rd_T113 l i).f1 = true)

theorem spec_l29Key.ev (a b : Int) (m : List S113) (p : Int) (hm : m.length < 4611686018427387904) : Ev (fun k => spec_l29Key.f k a b m p) (hasKeyV m p) := by
  unfold spec_l29Key.f hasKeyV
  refine scan_any (n := m.length) (fun k i => spec_l29Key.l0 k p i a b m) (fun j => (rd_T113 m j).f1 = p) ?_ (fun i hi q r ih => ?_) (fun i hi q => ?_)
  · refine Ev.step (fun k => by rw [spec_l29Key.l0]) ?_
    exact ev_neg (by omega) (Ev.now _)
  · refine Ev.step (fun k => by rw [spec_l29Key.l0]) ?_
    rw [wrap_succ (by omega)]
    exact ev_pos (by omega) (ev_pos (by omega) (ev_neg q ih))
  · refine Ev.step (fun k => by rw [spec_l29Key.l0]) ?_
    exact ev_pos (by omega) (ev_pos (by omega) (ev_pos q (Ev.now _)))

theorem spec_SharesKey.ev (a b : Int) (l : List S113) (c d : Int) (m : List S113) (hl : l.length < 4611686018427387904) (hm : m.length < 4611686018427387904) : Ev (fun k => spec_SharesKey.f k a b l c d m) (sharesV l m) := by
  unfold spec_SharesKey.f sharesV
  refine scan_any (n := l.length) (fun k i => spec_SharesKey.l0 k i a b l c d m) (fun i => hasKeyV m (rd_T113 l i).f1 = true) ?_ (fun i hi q r ih => ?_) (fun i hi q => ?_)
  · refine Ev.step (fun k => by rw [spec_SharesKey.l0]) ?_
    exact ev_neg (by omega) (Ev.now _)
  · refine Ev.step (fun k => by rw [spec_SharesKey.l0]) ?_
    rw [wrap_succ (by omega)]
    exact ev_pos (by omega) (ev_pos (by omega) (Ev.bind (spec_l29Key.ev c d m _ hm) (ev_neg q ih)))
  · refine Ev.step (fun k => by rw [spec_SharesKey.l0]) ?_
    exact ev_pos (by omega) (ev_pos (by omega) (Ev.bind (spec_l29Key.ev c d m _ hm) (ev_pos q (Ev.now _))))

theorem impl_SharesKey.ev (a b : Int) (l : List S113) (c d : Int) (m : List S113) (hl : l.length < 4611686018427387904) (hm : m.length < 4611686018427387904) : Ev (fun k => impl_SharesKey.f k a b l c d m) (sharesV l m) := by
  unfold impl_SharesKey.f sharesV
  have go1 : ∀ i, i < l.length → ∀ j, j < m.length → ¬ (rd_T113 m j).f1 = (rd_T113 l i).f1 → ∀ r, Ev (fun k => impl_SharesKey.l1 k l l.length i m m.length ((j + 1 : Nat) : Int) c d m (rd_T113 l i).f0 (rd_T113 l i).f1 (rd_T113 l i).f2 (rd_T113 l i).f3) r → Ev (fun k => impl_SharesKey.l1 k l l.length i m m.length (j : Int) c d m (rd_T113 l i).f0 (rd_T113 l i).f1 (rd_T113 l i).f2 (rd_T113 l i).f3) r := by
    intro i hi j hj q r ih
    refine Ev.step (fun k => by rw [impl_SharesKey.l1]) ?_
    rw [wrap_succ (i := j) (by omega)]
    exact ev_pos (by omega) (ev_pos (by omega) (ev_pos (by omega) (ev_neg (fun e => q e.symm) ih)))
  refine scan_any (n := l.length) (fun k i => impl_SharesKey.l0 k l l.length i c d m) (fun i => hasKeyV m (rd_T113 l i).f1 = true) ?_ (fun i hi q r ih => ?_) (fun i hi q => ?_)
  · refine Ev.step (fun k => by rw [impl_SharesKey.l0]) ?_
    exact ev_neg (by omega) (Ev.now _)
  · refine Ev.step (fun k => by rw [impl_SharesKey.l0]) ?_
    refine ev_pos (by omega) (ev_pos (by omega) (ev_pos (by omega) ?_))
    refine scan_miss (n := m.length) (fun k j => impl_SharesKey.l1 k l l.length i m m.length j c d m (rd_T113 l i).f0 (rd_T113 l i).f1 (rd_T113 l i).f2 (rd_T113 l i).f3) (fun j => (rd_T113 m j).f1 = (rd_T113 l i).f1) r ?_ (go1 i hi) (fun j hj e => q (dec_true ⟨j, hj, e⟩))
    refine Ev.step (fun k => by rw [impl_SharesKey.l1]) ?_
    rw [wrap_succ (i := i) (by omega)]
    exact ev_neg (by omega) ih
  · refine Ev.step (fun k => by rw [impl_SharesKey.l0]) ?_
    refine ev_pos (by omega) (ev_pos (by omega) (ev_pos (by omega) ?_))
    refine scan_hit (n := m.length) (fun k j => impl_SharesKey.l1 k l l.length i m m.length j c d m (rd_T113 l i).f0 (rd_T113 l i).f1 (rd_T113 l i).f2 (rd_T113 l i).f3) (fun j => (rd_T113 m j).f1 = (rd_T113 l i).f1) true (go1 i hi) (fun j hj e => ?_) (dec_iff.1 q)
    refine Ev.step (fun k => by rw [impl_SharesKey.l1]) ?_
    exact ev_pos (by omega) (ev_pos (by omega) (ev_pos (by omega) (ev_pos e.symm (Ev.now _))))

theorem FnExactSharesKey : Claim := by
  intro a b l c d m _ _ ⟨hl, _⟩ _ _ ⟨hn, _⟩
  refine Ev.rounds (r := true) ?_
  unfold laws_FnExactSharesKey.f
  by_cases h : (l.length : Int) ≤ 1048576
  · refine ev_bindc (laws_szAccount.fits a b l _ (by omega) h) (ev_neg (by omega) ?_)
    by_cases h2 : (m.length : Int) ≤ 1048576 - l.length
    · refine ev_bindc (laws_szAccount.fits c d m _ (by omega) h2) (ev_neg (by omega) ?_)
      have hl2 : (l.map cvCredential).length < 4611686018427387904 := by rw [List.length_map]; omega
      have hm2 : (m.map cvCredential).length < 4611686018427387904 := by rw [List.length_map]; omega
      refine Ev.bind (laws_toAccount.ev a b l (by omega)) (Ev.bind (laws_toAccount.ev c d m (by omega)) ?_)
      refine Ev.bind (spec_SharesKey.ev _ _ _ _ _ _ hl2 hm2) ?_
      refine Ev.bind (laws_toAccount.ev a b l (by omega)) (Ev.bind (laws_toAccount.ev c d m (by omega)) ?_)
      refine Ev.bind (impl_SharesKey.ev _ _ _ _ _ _ hl2 hm2) (ev_neg (by simp) ?_)
      refine Ev.bind (laws_toAccount.ev a b l (by omega)) (Ev.bind (laws_eqAccount.ev _ _ _ hl2) (ev_pos rfl ?_))
      exact Ev.bind (laws_toAccount.ev c d m (by omega)) (Ev.bind (laws_eqAccount.ev _ _ _ hm2) (ev_pos rfl (Ev.now _)))
    · exact ev_bindc (laws_szAccount.big c d m _ (by omega) (by omega) (by omega) hn) (ev_pos (by omega) (Ev.now _))
  · exact ev_bindc (laws_szAccount.big a b l _ (by omega) (by omega) (by omega) hl) (ev_pos (by omega) (Ev.now _))

end Go.Proofs.Ytfaecdhobmalfaa.Pure
