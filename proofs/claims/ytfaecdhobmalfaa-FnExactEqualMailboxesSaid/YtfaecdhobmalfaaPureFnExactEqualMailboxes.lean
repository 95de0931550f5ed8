/- The program's EqualMailboxes returns what the reference's returns, for all arguments that the row lets in; no condition besides. Here: the plain side, over the printed functions. -/
import Derived.Test.YtfaecdhobmalfaaPFnExactEqualMailboxesx4
import Derived.Test.YtfaecdhobmalfaaKit
namespace Go.Proofs.Ytfaecdhobmalfaa.Pure
open Go.RowKit Go.Proofs.Ytfaecdhobmalfaa.PFnExactEqualMailboxes Go.Proofs.YtfaecdhobmalfaaW.PrintWords Go.Proofs.YtfaecdhobmalfaaW.PrintLast Go.Proofs.YtfaecdhobmalfaaW.PrintMore Go.Proofs.Ytfaecdhobmalfaa.Kit
set_option linter.unusedVariables false
set_option linter.unusedSimpArgs false

/-- What is known of a Notice that came in. -/
def W121 (x : S121) : Prop := ((Lit.int .i64 x.f0).wf = true) ∧ ((Lit.int .i64 x.f1).wf = true) ∧ ((Lit.int .i64 x.f2).wf = true) ∧ (True)
/-- What is to be proved of the printed functions. -/
def Claim : Prop := ∀ (l0_0 : List (S121)), ∀ (l1_0 : List (S121)), (l0_0.length ≤ maxLen ∧ ∀ y_ ∈ l0_0, W121 y_) → (l1_0.length ≤ maxLen ∧ ∀ y_ ∈ l1_0, W121 y_) → ∃ k, laws_FnExactEqualMailboxes.f k l0_0 l1_0 = some true

theorem laws_szNoticeS.fits (l : List S121) (n : Int) (h0 : n ≤ 1048576) (h : (l.length : Int) ≤ n) : laws_szNoticeS.f l n = some (n - l.length) := by
  unfold laws_szNoticeS.f
  rw [wrap_in (by omega) (by omega), if_neg (by omega)]
theorem laws_szNoticeS.big (l : List S121) (n : Int) (h0 : n ≤ 1048576) (h : n < (l.length : Int)) (h1 : 0 ≤ n) (hl : l.length ≤ maxLen) : laws_szNoticeS.f l n = some (-1) := by
  unfold maxLen at hl
  unfold laws_szNoticeS.f
  rw [wrap_in (by omega) (by omega), if_pos (by omega)]

theorem laws_szMailbox.fits (l : List S121) (n : Int) (h0 : n ≤ 1048576) (h : (l.length : Int) ≤ n) : laws_szMailbox.f l n = some (n - l.length) := by
  unfold laws_szMailbox.f
  rw [laws_szNoticeS.fits l n h0 h]
  simp only [Option.bind_some]
  rw [if_neg (by omega)]
theorem laws_szMailbox.big (l : List S121) (n : Int) (h0 : n ≤ 1048576) (h : n < (l.length : Int)) (h1 : 0 ≤ n) (hl : l.length ≤ maxLen) : laws_szMailbox.f l n = some (-1) := by
  unfold laws_szMailbox.f
  rw [laws_szNoticeS.big l n h0 h h1 hl]
  rfl

def cvNotice (x : S121) : S27 := ⟨x.f0, x.f1, x.f2, x.f3⟩

theorem laws_toNoticeS.ev (l : List S121) (hl : l.length ≤ 1048576) : Ev (fun k => laws_toNoticeS.f k l) (l.map cvNotice) := by
  unfold laws_toNoticeS.f
  refine ev_pos (by omega) (ev_pos (by omega) ?_)
  refine fill (xs := l) cvNotice (fun k s i => laws_toNoticeS.l0 k l s i) (fun s hs => ?_) (fun i h s hs r ih => ?_) (List.replicate ((l.length : Int)).toNat z27) (by simp)
  · refine Ev.step (fun k => by rw [laws_toNoticeS.l0]) ?_
    exact ev_neg (by omega) (Ev.now _)
  · refine Ev.step (fun k => by rw [laws_toNoticeS.l0]) ?_
    refine ev_pos (by omega) (ev_pos (by omega) (ev_bindc rfl (ev_pos (by omega) ?_)))
    simp only [rd_T121, Int.toNat_natCast, getD_nat h, wrap_succ (show i < 4611686018427387904 by omega)]
    exact ih

theorem laws_toMailbox.ev (l : List S121) (hl : l.length ≤ 1048576) : Ev (fun k => laws_toMailbox.f k l) (l.map cvNotice) := by
  unfold laws_toMailbox.f
  exact Ev.bind (laws_toNoticeS.ev l (by omega)) (Ev.now _)

theorem laws_eqNoticeS.ev (l : List S27) (hl : l.length < 4611686018427387904) : Ev (fun k => laws_eqNoticeS.f k l l) true := by
  unfold laws_eqNoticeS.f
  refine ev_pos rfl ?_
  refine scan0 (xs := l) (fun k (_ : Unit) i => laws_eqNoticeS.l0 k l l i) (fun _ _ => true) (fun s => ?_) (fun i h s ih => ?_) ()
  · refine Ev.step (fun k => by rw [laws_eqNoticeS.l0]) ?_
    exact ev_neg (by omega) (Ev.now _)
  · refine Ev.step (fun k => by rw [laws_eqNoticeS.l0]) ?_
    refine ev_pos (by omega) (ev_pos (by omega) (ev_pos (by omega) (ev_bindc (a := true) (by simp [laws_eqNotice.f]) (ev_pos rfl ?_))))
    rw [wrap_succ (by omega)]
    exact ih ()

theorem laws_eqMailbox.ev (l : List S27) (hl : l.length < 4611686018427387904) : Ev (fun k => laws_eqMailbox.f k l l) true := by
  unfold laws_eqMailbox.f
  refine Ev.bind (laws_eqNoticeS.ev l hl) (ev_pos rfl ?_)
  exact Ev.now _

def mailSame (l m : List S27) (i : Nat) : Prop := (rd_T27 l i).f0 = (rd_T27 m i).f0 ∧ (rd_T27 l i).f1 = (rd_T27 m i).f1 ∧ (rd_T27 l i).f2 = (rd_T27 m i).f2 ∧ (rd_T27 l i).f3 = (rd_T27 m i).f3
noncomputable def eqMailV (l m : List S27) : Bool := if (l.length : Int) = (m.length : Int) then dec ((∀ i, i < l.length → mailSame l m i) ∧ True) else false

theorem spec_EqualMailboxes.ev (l m : List S27) (hl : l.length < 4611686018427387904) : Ev (fun k => spec_EqualMailboxes.f k l m) (eqMailV l m) := by
  unfold spec_EqualMailboxes.f eqMailV
  refine ev_ite (fun e => ?_) (fun e => Ev.now _)
  refine scan_all (n := l.length) (fun k i => spec_EqualMailboxes.l0 k i l m) (mailSame l m) True ?_ (fun i hi q r ih => ?_) (fun i hi q => ?_)
  · refine Ev.step (fun k => by rw [spec_EqualMailboxes.l0]) ?_
    rw [dec_true trivial]
    exact ev_neg (by omega) (Ev.now _)
  · obtain ⟨q0, q1, q2, q3⟩ := q
    refine Ev.step (fun k => by rw [spec_EqualMailboxes.l0]) ?_
    refine ev_pos (by omega) (ev_pos (by omega) (ev_pos (by omega) (ev_neg (by simp [q0, q1, q2, q3]) ?_)))
    rw [wrap_succ (by omega)]
    exact ih
  · refine Ev.step (fun k => by rw [spec_EqualMailboxes.l0]) ?_
    refine ev_pos (by omega) (ev_pos (by omega) (ev_pos (by omega) (ev_pos ?_ (Ev.now _))))
    unfold mailSame at q
    simp only [Bool.or_eq_true, Bool.not_eq_true', beq_eq_false_iff_ne, ne_eq]
    by_cases q0 : (rd_T27 l i).f0 = (rd_T27 m i).f0
    · by_cases q1 : (rd_T27 l i).f1 = (rd_T27 m i).f1
      · by_cases q2 : (rd_T27 l i).f2 = (rd_T27 m i).f2
        · exact .inr (.inr (.inr (fun q3 => q ⟨q0, q1, q2, q3⟩)))
        · exact .inr (.inr (.inl q2))
      · exact .inr (.inl q1)
    · exact .inl q0

theorem impl_EqualMailboxes.ev (l m : List S27) (hl : l.length < 4611686018427387904) : Ev (fun k => impl_EqualMailboxes.f k l m) (eqMailV l m) := by
  unfold impl_EqualMailboxes.f eqMailV
  refine ev_ite (fun e => ?_) (fun e => Ev.now _)
  refine scan_all (n := l.length) (fun k i => impl_EqualMailboxes.l0 k l.length i l m) (mailSame l m) True ?_ (fun i hi q r ih => ?_) (fun i hi q => ?_)
  · refine Ev.step (fun k => by rw [impl_EqualMailboxes.l0]) ?_
    rw [dec_true trivial]
    exact ev_neg (by omega) (Ev.now _)
  · obtain ⟨q0, q1, q2, q3⟩ := q
    refine Ev.step (fun k => by rw [impl_EqualMailboxes.l0]) ?_
    refine ev_pos (by omega) (ev_pos (by omega) (ev_pos (by omega) (ev_pos (by omega) (ev_neg (by simp [q0, q1, q2, q3]) ?_))))
    rw [wrap_succ (by omega)]
    exact ih
  · refine Ev.step (fun k => by rw [impl_EqualMailboxes.l0]) ?_
    refine ev_pos (by omega) (ev_pos (by omega) (ev_pos (by omega) (ev_pos (by omega) (ev_pos ?_ (Ev.now _)))))
    unfold mailSame at q
    simp only [Bool.or_eq_true, Bool.not_eq_true', beq_eq_false_iff_ne, ne_eq]
    by_cases q0 : (rd_T27 l i).f0 = (rd_T27 m i).f0
    · by_cases q1 : (rd_T27 l i).f1 = (rd_T27 m i).f1
      · by_cases q2 : (rd_T27 l i).f2 = (rd_T27 m i).f2
        · exact .inr (.inr (.inr (fun q3 => q ⟨q0, q1, q2, q3⟩)))
        · exact .inr (.inr (.inl q2))
      · exact .inr (.inl q1)
    · exact .inl q0

theorem FnExactEqualMailboxes : Claim := by
  intro l m ⟨hl, _⟩ ⟨hn, _⟩
  refine Ev.rounds (r := true) ?_
  unfold laws_FnExactEqualMailboxes.f
  by_cases h : (l.length : Int) ≤ 1048576
  · refine ev_bindc (laws_szMailbox.fits l _ (by omega) h) (ev_neg (by omega) ?_)
    by_cases h2 : (m.length : Int) ≤ 1048576 - l.length
    · refine ev_bindc (laws_szMailbox.fits m _ (by omega) h2) (ev_neg (by omega) ?_)
      have hl2 : (l.map cvNotice).length < 4611686018427387904 := by rw [List.length_map]; omega
      have hm2 : (m.map cvNotice).length < 4611686018427387904 := by rw [List.length_map]; omega
      refine Ev.bind (laws_toMailbox.ev l (by omega)) (Ev.bind (laws_toMailbox.ev m (by omega)) ?_)
      refine Ev.bind (spec_EqualMailboxes.ev _ _ hl2) ?_
      refine Ev.bind (laws_toMailbox.ev l (by omega)) (Ev.bind (laws_toMailbox.ev m (by omega)) ?_)
      refine Ev.bind (impl_EqualMailboxes.ev _ _ hl2) (ev_neg (by simp) ?_)
      refine Ev.bind (laws_toMailbox.ev l (by omega)) (Ev.bind (laws_eqMailbox.ev _ hl2) (ev_pos rfl ?_))
      exact Ev.bind (laws_toMailbox.ev m (by omega)) (Ev.bind (laws_eqMailbox.ev _ hm2) (ev_pos rfl (Ev.now _)))
    · exact ev_bindc (laws_szMailbox.big m _ (by omega) (by omega) (by omega) hn) (ev_pos (by omega) (Ev.now _))
  · exact ev_bindc (laws_szMailbox.big l _ (by omega) (by omega) (by omega) hl) (ev_pos (by omega) (Ev.now _))

end Go.Proofs.Ytfaecdhobmalfaa.Pure
