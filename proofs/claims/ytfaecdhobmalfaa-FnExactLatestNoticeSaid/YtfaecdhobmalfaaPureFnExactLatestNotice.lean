/- The program's LatestNotice returns what the reference's returns, for all arguments that the row lets in; no condition besides. Here: the plain side, over the printed functions. -/
import Derived.Test.YtfaecdhobmalfaaPFnExactLatestNoticex3
import Derived.Test.YtfaecdhobmalfaaKit
namespace Go.Proofs.Ytfaecdhobmalfaa.Pure
open Go.RowKit Go.Proofs.Ytfaecdhobmalfaa.PFnExactLatestNotice Go.Proofs.YtfaecdhobmalfaaW.PrintWords Go.Proofs.YtfaecdhobmalfaaW.PrintLast Go.Proofs.YtfaecdhobmalfaaW.PrintMore Go.Proofs.Ytfaecdhobmalfaa.Kit
set_option linter.unusedVariables false
set_option linter.unusedSimpArgs false

/-- What is known of a Notice that came in. -/
def W121 (x : S121) : Prop := ((Lit.int .i64 x.f0).wf = true) ∧ ((Lit.int .i64 x.f1).wf = true) ∧ ((Lit.int .i64 x.f2).wf = true) ∧ (True)
/-- What is to be proved of the printed functions. -/
def Claim : Prop := ∀ (l0_0 : List (S121)), ∀ (a1 : Int), (l0_0.length ≤ maxLen ∧ ∀ y_ ∈ l0_0, W121 y_) → ((Lit.int .i64 a1).wf = true) → ∃ k, laws_FnExactLatestNotice.f k l0_0 a1 = some true

theorem laws_szNoticeS.fits (l : List S121) (n : Int) (h0 : n ≤ 1048576) (h : (l.length : Int) ≤ n) : laws_szNoticeS.f l n = some (n - l.length) := by
  unfold laws_szNoticeS.f
  rw [wrap_in (by omega) (by omega), if_neg (by omega)]
theorem laws_szNoticeS.big (l : List S121) (n : Int) (h0 : n ≤ 1048576) (h : n < (l.length : Int)) (h1 : 0 ≤ n) (hl : l.length ≤ maxLen) : laws_szNoticeS.f l n = some (-1) := by
  unfold maxLen at hl
  unfold laws_szNoticeS.f
  rw [wrap_in (by omega) (by omega), if_pos (by omega)]

theorem laws_szMailbox.fits (l : List S121) (n : Int) (h0 : n ≤ 1048576) (h : (l.length : Int) ≤ n) : laws_szMailbox.f l n = some (n - l.length) := by
  unfold laws_szMailbox.f
  rw [laws_szNoticeS.fits l n h0 h]
  simp only [Option.bind_some]
  rw [if_neg (by omega)]
theorem laws_szMailbox.big (l : List S121) (n : Int) (h0 : n ≤ 1048576) (h : n < (l.length : Int)) (h1 : 0 ≤ n) (hl : l.length ≤ maxLen) : laws_szMailbox.f l n = some (-1) := by
  unfold laws_szMailbox.f
  rw [laws_szNoticeS.big l n h0 h h1 hl]
  rfl

def cvNotice (x : S121) : S27 := ⟨x.f0, x.f1, x.f2, x.f3⟩

theorem laws_toNoticeS.ev (l : List S121) (hl : l.length ≤ 1048576) : Ev (fun k => laws_toNoticeS.f k l) (l.map cvNotice) := by
  unfold laws_toNoticeS.f
  refine ev_pos (by omega) (ev_pos (by omega) ?_)
  refine fill (xs := l) cvNotice (fun k s i => laws_toNoticeS.l0 k l s i) (fun s hs => ?_) (fun i h s hs r ih => ?_) (List.replicate ((l.length : Int)).toNat z27) (by simp)
  · refine Ev.step (fun k => by rw [laws_toNoticeS.l0]) ?_
    exact ev_neg (by omega) (Ev.now _)
  · refine Ev.step (fun k => by rw [laws_toNoticeS.l0]) ?_
    refine ev_pos (by omega) (ev_pos (by omega) (ev_bindc rfl (ev_pos (by omega) ?_)))
    simp only [rd_T121, Int.toNat_natCast, getD_nat h, wrap_succ (show i < 4611686018427387904 by omega)]
    exact ih

theorem laws_toMailbox.ev (l : List S121) (hl : l.length ≤ 1048576) : Ev (fun k => laws_toMailbox.f k l) (l.map cvNotice) := by
  unfold laws_toMailbox.f
  exact Ev.bind (laws_toNoticeS.ev l (by omega)) (Ev.now _)

theorem laws_eqNoticeS.ev (l : List S27) (hl : l.length < 4611686018427387904) : Ev (fun k => laws_eqNoticeS.f k l l) true := by
  unfold laws_eqNoticeS.f
  refine ev_pos rfl ?_
  refine scan0 (xs := l) (fun k (_ : Unit) i => laws_eqNoticeS.l0 k l l i) (fun _ _ => true) (fun s => ?_) (fun i h s ih => ?_) ()
  · refine Ev.step (fun k => by rw [laws_eqNoticeS.l0]) ?_
    exact ev_neg (by omega) (Ev.now _)
  · refine Ev.step (fun k => by rw [laws_eqNoticeS.l0]) ?_
    refine ev_pos (by omega) (ev_pos (by omega) (ev_pos (by omega) (ev_bindc (a := true) (by simp [laws_eqNotice.f]) (ev_pos rfl ?_))))
    rw [wrap_succ (by omega)]
    exact ih ()

theorem laws_eqMailbox.ev (l : List S27) (hl : l.length < 4611686018427387904) : Ev (fun k => laws_eqMailbox.f k l l) true := by
  unfold laws_eqMailbox.f
  refine Ev.bind (laws_eqNoticeS.ev l hl) (ev_pos rfl ?_)
  exact Ev.now _

def latestV (l : List S27) (a : Int) : Int × Int × Int × Bool × Bool :=
  match l.reverse.find? (fun x => x.f1 == a) with
  | some x => (x.f0, x.f1, x.f2, x.f3, true)
  | none => (0, 0, 0, false, false)

theorem spec_LatestNotice.ev (l : List S27) (a : Int) (hl : l.length < 4611686018427387904) : Ev (fun k => spec_LatestNotice.f k l a) (latestV l a) := by
  unfold spec_LatestNotice.f
  have key : ∀ n : Nat, n ≤ l.length → Ev (fun k => spec_LatestNotice.l0 k a ((n : Int) - 1) l) (latestV (l.take n) a) := by
    intro n
    induction n with
    | zero =>
      intro _
      refine Ev.step (fun k => by rw [spec_LatestNotice.l0]) ?_
      exact ev_neg (by omega) (Ev.now _)
    | succ n ih =>
      intro hn
      have h : n < l.length := by omega
      refine Ev.step (fun k => by rw [spec_LatestNotice.l0]) ?_
      rw [show ((n + 1 : Nat) : Int) - 1 = (n : Int) by omega]
      refine ev_pos (by omega) (ev_pos (by omega) (ev_pos (by omega) ?_))
      rw [rd_T27, getD_get h, List.take_succ_eq_append_getElem h, wrap_in (by omega) (by omega)]
      simp only [latestV, List.reverse_append, List.reverse_cons, List.reverse_nil, List.nil_append, List.singleton_append, List.find?_cons]
      refine ev_both (fun e => ?_) (fun e => ?_)
      · simp only [e, beq_self_eq_true]
        exact Ev.now _
      · simp only [beq_eq_false_iff_ne.2 e]
        exact ih (by omega)
  have := key l.length (Nat.le_refl _)
  rw [List.take_length] at this
  rw [wrap_in (by omega) (by omega)]
  exact this

theorem impl_LatestNotice.ev (l : List S27) (a : Int) (hl : l.length < 4611686018427387904) : Ev (fun k => impl_LatestNotice.f k l a) (latestV l a) := by
  unfold impl_LatestNotice.f
  have key : ∀ n : Nat, n ≤ l.length → Ev (fun k => impl_LatestNotice.l0 k a ((n : Int) - 1) l) (latestV (l.take n) a) := by
    intro n
    induction n with
    | zero =>
      intro _
      refine Ev.step (fun k => by rw [impl_LatestNotice.l0]) ?_
      exact ev_neg (by omega) (Ev.now _)
    | succ n ih =>
      intro hn
      have h : n < l.length := by omega
      refine Ev.step (fun k => by rw [impl_LatestNotice.l0]) ?_
      rw [show ((n + 1 : Nat) : Int) - 1 = (n : Int) by omega]
      refine ev_pos (by omega) (ev_pos (by omega) (ev_pos (by omega) ?_))
      rw [rd_T27, getD_get h, List.take_succ_eq_append_getElem h, wrap_in (by omega) (by omega)]
      simp only [latestV, List.reverse_append, List.reverse_cons, List.reverse_nil, List.nil_append, List.singleton_append, List.find?_cons]
      refine ev_both (fun e => ?_) (fun e => ?_)
      · simp only [e, beq_self_eq_true]
        exact Ev.now _
      · simp only [beq_eq_false_iff_ne.2 e]
        exact ih (by omega)
  have := key l.length (Nat.le_refl _)
  rw [List.take_length] at this
  rw [wrap_in (by omega) (by omega)]
  exact this

theorem FnExactLatestNotice : Claim := by
  intro l a ⟨hl, _⟩ _
  refine Ev.rounds (r := true) ?_
  unfold laws_FnExactLatestNotice.f
  by_cases h : (l.length : Int) ≤ 1048576
  · refine ev_bindc (laws_szMailbox.fits l _ (by omega) h) (ev_neg (by omega) ?_)
    have hm : (l.map cvNotice).length < 4611686018427387904 := by rw [List.length_map]; omega
    refine Ev.bind (laws_toMailbox.ev l (by omega)) ?_
    refine Ev.bind (spec_LatestNotice.ev _ a hm) ?_
    refine Ev.bind (laws_toMailbox.ev l (by omega)) ?_
    refine Ev.bind (impl_LatestNotice.ev _ a hm) ?_
    refine ev_bindc (a := true) (by simp [laws_eqNotice.f]) (ev_pos rfl ?_)
    refine Ev.step (fun k => by rw [laws_FnExactLatestNotice.j0]) ?_
    refine ev_neg (by simp) ?_
    refine Ev.bind (laws_toMailbox.ev l (by omega)) ?_
    exact Ev.bind (laws_eqMailbox.ev _ hm) (ev_pos rfl (Ev.now _))
  · exact ev_bindc (laws_szMailbox.big l _ (by omega) (by omega) (by omega) hl) (ev_pos (by omega) (Ev.now _))

end Go.Proofs.Ytfaecdhobmalfaa.Pure
