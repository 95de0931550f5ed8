/- The program's DueAt returns what the reference's returns, for all arguments that the row lets in; no condition besides. Here: the plain side, over the printed functions. -/
import Derived.Test.YtfaecdhobmalfaaPFnExactDueAtx2
import Derived.Test.YtfaecdhobmalfaaKit
namespace Go.Proofs.Ytfaecdhobmalfaa.Pure
open Go.RowKit Go.Proofs.Ytfaecdhobmalfaa.PFnExactDueAt Go.Proofs.YtfaecdhobmalfaaW.PrintWords Go.Proofs.YtfaecdhobmalfaaW.PrintLast Go.Proofs.YtfaecdhobmalfaaW.PrintMore Go.Proofs.Ytfaecdhobmalfaa.Kit
set_option linter.unusedVariables false
set_option linter.unusedSimpArgs false

/-- What is known of a Claim that came in. -/
def W124 (x : S124) : Prop := ((Lit.int .i64 x.f0).wf = true) ∧ ((Lit.int .i64 x.f1).wf = true) ∧ ((Lit.int .i64 x.f2).wf = true) ∧ ((Lit.int .i64 x.f3).wf = true) ∧ ((Lit.int .i64 x.f4).wf = true) ∧ ((Lit.int .i64 x.f5).wf = true)
/-- What is to be proved of the printed functions. -/
def Claim : Prop := ∀ (a0_0 : Int), ∀ (l0_1 : List (S124)), ∀ (a1 : Int), ((Lit.int .i64 a0_0).wf = true) → (l0_1.length ≤ maxLen ∧ ∀ y_ ∈ l0_1, W124 y_) → ((Lit.int .i64 a1).wf = true) → ∃ k, laws_FnExactDueAt.f k a0_0 l0_1 a1 = some true

theorem laws_szClaimS.fits (l : List S124) (n : Int) (h0 : n ≤ 1048576) (h : (l.length : Int) ≤ n) : laws_szClaimS.f l n = some (n - l.length) := by
  unfold laws_szClaimS.f
  rw [wrap_in (by omega) (by omega), if_neg (by omega)]
theorem laws_szClaimS.big (l : List S124) (n : Int) (h0 : n ≤ 1048576) (h : n < (l.length : Int)) (h1 : 0 ≤ n) (hl : l.length ≤ maxLen) : laws_szClaimS.f l n = some (-1) := by
  unfold maxLen at hl
  unfold laws_szClaimS.f
  rw [wrap_in (by omega) (by omega), if_pos (by omega)]

theorem laws_szClaimList.fits (a0 : Int) (l : List S124) (n : Int) (h0 : n ≤ 1048576) (h : (l.length : Int) ≤ n) : laws_szClaimList.f a0 l n = some (n - l.length) := by
  unfold laws_szClaimList.f
  rw [laws_szClaimS.fits l n h0 h]
  simp only [Option.bind_some]
  rw [if_neg (by omega)]
theorem laws_szClaimList.big (a0 : Int) (l : List S124) (n : Int) (h0 : n ≤ 1048576) (h : n < (l.length : Int)) (h1 : 0 ≤ n) (hl : l.length ≤ maxLen) : laws_szClaimList.f a0 l n = some (-1) := by
  unfold laws_szClaimList.f
  rw [laws_szClaimS.big l n h0 h h1 hl]
  rfl

def cvClaim (x : S124) : S107 := ⟨x.f0, x.f1, x.f2, x.f3, x.f4, x.f5⟩

theorem laws_toClaimS.ev (l : List S124) (hl : l.length ≤ 1048576) : Ev (fun k => laws_toClaimS.f k l) (l.map cvClaim) := by
  unfold laws_toClaimS.f
  refine ev_pos (by omega) (ev_pos (by omega) ?_)
  refine fill (xs := l) cvClaim (fun k s i => laws_toClaimS.l0 k l s i) (fun s hs => ?_) (fun i h s hs r ih => ?_) (List.replicate ((l.length : Int)).toNat z107) (by simp)
  · refine Ev.step (fun k => by rw [laws_toClaimS.l0]) ?_
    exact ev_neg (by omega) (Ev.now _)
  · refine Ev.step (fun k => by rw [laws_toClaimS.l0]) ?_
    refine ev_pos (by omega) (ev_pos (by omega) (ev_bindc rfl (ev_pos (by omega) ?_)))
    simp only [rd_T124, Int.toNat_natCast, getD_nat h, wrap_succ (show i < 4611686018427387904 by omega)]
    exact ih

theorem laws_toClaimList.ev (a0 : Int) (l : List S124) (hl : l.length ≤ 1048576) : Ev (fun k => laws_toClaimList.f k a0 l) (a0, l.map cvClaim) := by
  unfold laws_toClaimList.f
  exact Ev.bind (laws_toClaimS.ev l (by omega)) (Ev.now _)

theorem laws_eqClaimS.ev (l : List S107) (hl : l.length < 4611686018427387904) : Ev (fun k => laws_eqClaimS.f k l l) true := by
  unfold laws_eqClaimS.f
  refine ev_pos rfl ?_
  refine scan0 (xs := l) (fun k (_ : Unit) i => laws_eqClaimS.l0 k l l i) (fun _ _ => true) (fun s => ?_) (fun i h s ih => ?_) ()
  · refine Ev.step (fun k => by rw [laws_eqClaimS.l0]) ?_
    exact ev_neg (by omega) (Ev.now _)
  · refine Ev.step (fun k => by rw [laws_eqClaimS.l0]) ?_
    refine ev_pos (by omega) (ev_pos (by omega) (ev_pos (by omega) (ev_bindc (a := true) (by simp [laws_eqClaim.f]) (ev_pos rfl ?_))))
    rw [wrap_succ (by omega)]
    exact ih ()

theorem laws_eqClaimList.ev (a0 : Int) (l : List S107) (hl : l.length < 4611686018427387904) : Ev (fun k => laws_eqClaimList.f k a0 l a0 l) true := by
  unfold laws_eqClaimList.f
  refine ev_pos rfl ?_
  refine Ev.bind (laws_eqClaimS.ev l hl) (ev_pos rfl ?_)
  exact Ev.now _

def findClaimGo (id : Int) : List S107 → Nat → Int
  | [], _ => -1
  | x :: xs, i => if x.f0 = id then (i : Int) else findClaimGo id xs (i + 1)
def findClaimV (l : List S107) (id : Int) : Int := findClaimGo id l 0
theorem findClaimGo_range (id : Int) : ∀ (l : List S107) (i : Nat), findClaimGo id l i = -1 ∨ ((i : Int) ≤ findClaimGo id l i ∧ findClaimGo id l i < i + l.length)
  | [], i => .inl rfl
  | x :: xs, i => by
    simp only [findClaimGo, List.length_cons]
    split
    · right; omega
    · have := findClaimGo_range id xs (i + 1)
      omega
theorem findClaim_range (l : List S107) (id : Int) : findClaimV l id = -1 ∨ (0 ≤ findClaimV l id ∧ findClaimV l id < l.length) := by
  have := findClaimGo_range id l 0
  unfold findClaimV
  omega

def dueV (l : List S107) (id : Int) : Int := if findClaimV l id < 0 then -1 else wrap64 ((wrap64 (((rd_T107 l (findClaimV l id)).f3) + ((rd_T107 l (findClaimV l id)).f4))) + 1)

theorem spec_l28Find.ev (n : Int) (l : List S107) (id : Int) (hl : l.length < 4611686018427387904) : Ev (fun k => spec_l28Find.f k n l id) (findClaimV l id) := by
  unfold spec_l28Find.f findClaimV
  have key : ∀ (d i : Nat), i + d = l.length → Ev (fun k => spec_l28Find.l0 k id (i : Int) n l) (findClaimGo id (l.drop i) i) := by
    intro d
    induction d with
    | zero =>
      intro i hi
      rw [List.drop_of_length_le (by omega)]
      refine Ev.step (fun k => by rw [spec_l28Find.l0]) ?_
      exact ev_neg (by omega) (Ev.now _)
    | succ d ih =>
      intro i hi
      have h : i < l.length := by omega
      rw [List.drop_eq_getElem_cons h]
      refine Ev.step (fun k => by rw [spec_l28Find.l0]) ?_
      refine ev_pos (by omega) (ev_pos (by omega) ?_)
      rw [rd_T107, getD_get h, wrap_succ (by omega)]
      exact ev_ite (fun _ => Ev.now _) (fun _ => ih (i + 1) (by omega))
  simpa using key l.length 0 (by omega)

theorem spec_DueAt.ev (n : Int) (l : List S107) (id : Int) (hl : l.length < 4611686018427387904) : Ev (fun k => spec_DueAt.f k n l id) (dueV l id) := by
  unfold spec_DueAt.f dueV
  have r := findClaim_range l id
  refine Ev.bind (spec_l28Find.ev n l id hl) (ev_ite (fun _ => Ev.now _) (fun _ => ?_))
  exact ev_pos (by omega) (ev_pos (by omega) (Ev.now _))

theorem impl_findClaim.ev (n : Int) (l : List S107) (id : Int) (hl : l.length < 4611686018427387904) : Ev (fun k => impl_findClaim.f k n l id) (findClaimV l id) := by
  unfold impl_findClaim.f findClaimV
  have key : ∀ (d i : Nat), i + d = l.length → Ev (fun k => impl_findClaim.l0 k id l l.length (i : Int)) (findClaimGo id (l.drop i) i) := by
    intro d
    induction d with
    | zero =>
      intro i hi
      rw [List.drop_of_length_le (by omega)]
      refine Ev.step (fun k => by rw [impl_findClaim.l0]) ?_
      exact ev_neg (by omega) (Ev.now _)
    | succ d ih =>
      intro i hi
      have h : i < l.length := by omega
      rw [List.drop_eq_getElem_cons h]
      refine Ev.step (fun k => by rw [impl_findClaim.l0]) ?_
      refine ev_pos (by omega) (ev_pos (by omega) (ev_pos (by omega) ?_))
      rw [rd_T107, getD_get h, wrap_succ (by omega)]
      exact ev_ite (fun _ => Ev.now _) (fun _ => ih (i + 1) (by omega))
  simpa using key l.length 0 (by omega)

theorem impl_DueAt.ev (n : Int) (l : List S107) (id : Int) (hl : l.length < 4611686018427387904) : Ev (fun k => impl_DueAt.f k n l id) (dueV l id) := by
  unfold impl_DueAt.f dueV
  have r := findClaim_range l id
  refine Ev.bind (impl_findClaim.ev n l id hl) (ev_ite (fun _ => Ev.now _) (fun _ => ?_))
  exact ev_pos (by omega) (ev_pos (by omega) (Ev.now _))

theorem FnExactDueAt : Claim := by
  intro a l id _ ⟨hl, _⟩ _
  refine Ev.rounds (r := true) ?_
  unfold laws_FnExactDueAt.f
  by_cases h : (l.length : Int) ≤ 1048576
  · refine ev_bindc (laws_szClaimList.fits a l _ (by omega) h) (ev_neg (by omega) ?_)
    have hm : (l.map cvClaim).length < 4611686018427387904 := by rw [List.length_map]; omega
    refine Ev.bind (laws_toClaimList.ev a l (by omega)) ?_
    refine Ev.bind (spec_DueAt.ev _ _ id hm) ?_
    refine Ev.bind (laws_toClaimList.ev a l (by omega)) ?_
    refine Ev.bind (impl_DueAt.ev _ _ id hm) (ev_pos rfl ?_)
    refine Ev.bind (laws_toClaimList.ev a l (by omega)) ?_
    exact Ev.bind (laws_eqClaimList.ev _ _ hm) (ev_pos rfl (Ev.now _))
  · exact ev_bindc (laws_szClaimList.big a l _ (by omega) (by omega) (by omega) hl) (ev_pos (by omega) (Ev.now _))

end Go.Proofs.Ytfaecdhobmalfaa.Pure
