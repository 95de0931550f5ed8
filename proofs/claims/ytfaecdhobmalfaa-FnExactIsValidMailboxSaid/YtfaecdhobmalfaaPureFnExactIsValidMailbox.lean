/- The program's IsValidMailbox returns what the reference's returns, for all arguments that the row lets in; no condition besides. Here: the plain side, over the printed functions. -/
import Derived.Test.YtfaecdhobmalfaaPFnExactIsValidMailboxx5
import Derived.Test.YtfaecdhobmalfaaKit
namespace Go.Proofs.Ytfaecdhobmalfaa.Pure
open Go.RowKit Go.Proofs.Ytfaecdhobmalfaa.PFnExactIsValidMailbox Go.Proofs.YtfaecdhobmalfaaW.PrintWords Go.Proofs.YtfaecdhobmalfaaW.PrintLast Go.Proofs.YtfaecdhobmalfaaW.PrintMore Go.Proofs.Ytfaecdhobmalfaa.Kit
set_option linter.unusedVariables false
set_option linter.unusedSimpArgs false

/-- What is known of a Notice that came in. -/
def W121 (x : S121) : Prop := ((Lit.int .i64 x.f0).wf = true) ∧ ((Lit.int .i64 x.f1).wf = true) ∧ ((Lit.int .i64 x.f2).wf = true) ∧ (True)
/-- What is to be proved of the printed functions. -/
def Claim : Prop := ∀ (l0_0 : List (S121)), (l0_0.length ≤ maxLen ∧ ∀ y_ ∈ l0_0, W121 y_) → ∃ k, laws_FnExactIsValidMailbox.f k l0_0 = some true

theorem laws_szNoticeS.fits (l : List S121) (n : Int) (h0 : n ≤ 1048576) (h : (l.length : Int) ≤ n) : laws_szNoticeS.f l n = some (n - l.length) := by
  unfold laws_szNoticeS.f
  rw [wrap_in (by omega) (by omega), if_neg (by omega)]
theorem laws_szNoticeS.big (l : List S121) (n : Int) (h0 : n ≤ 1048576) (h : n < (l.length : Int)) (h1 : 0 ≤ n) (hl : l.length ≤ maxLen) : laws_szNoticeS.f l n = some (-1) := by
  unfold maxLen at hl
  unfold laws_szNoticeS.f
  rw [wrap_in (by omega) (by omega), if_pos (by omega)]

theorem laws_szMailbox.fits (l : List S121) (n : Int) (h0 : n ≤ 1048576) (h : (l.length : Int) ≤ n) : laws_szMailbox.f l n = some (n - l.length) := by
  unfold laws_szMailbox.f
  rw [laws_szNoticeS.fits l n h0 h]
  simp only [Option.bind_some]
  rw [if_neg (by omega)]
theorem laws_szMailbox.big (l : List S121) (n : Int) (h0 : n ≤ 1048576) (h : n < (l.length : Int)) (h1 : 0 ≤ n) (hl : l.length ≤ maxLen) : laws_szMailbox.f l n = some (-1) := by
  unfold laws_szMailbox.f
  rw [laws_szNoticeS.big l n h0 h h1 hl]
  rfl

def cvNotice (x : S121) : S27 := ⟨x.f0, x.f1, x.f2, x.f3⟩

theorem laws_toNoticeS.ev (l : List S121) (hl : l.length ≤ 1048576) : Ev (fun k => laws_toNoticeS.f k l) (l.map cvNotice) := by
  unfold laws_toNoticeS.f
  refine ev_pos (by omega) (ev_pos (by omega) ?_)
  refine fill (xs := l) cvNotice (fun k s i => laws_toNoticeS.l0 k l s i) (fun s hs => ?_) (fun i h s hs r ih => ?_) (List.replicate ((l.length : Int)).toNat z27) (by simp)
  · refine Ev.step (fun k => by rw [laws_toNoticeS.l0]) ?_
    exact ev_neg (by omega) (Ev.now _)
  · refine Ev.step (fun k => by rw [laws_toNoticeS.l0]) ?_
    refine ev_pos (by omega) (ev_pos (by omega) (ev_bindc rfl (ev_pos (by omega) ?_)))
    simp only [rd_T121, Int.toNat_natCast, getD_nat h, wrap_succ (show i < 4611686018427387904 by omega)]
    exact ih

theorem laws_toMailbox.ev (l : List S121) (hl : l.length ≤ 1048576) : Ev (fun k => laws_toMailbox.f k l) (l.map cvNotice) := by
  unfold laws_toMailbox.f
  exact Ev.bind (laws_toNoticeS.ev l (by omega)) (Ev.now _)

theorem laws_eqNoticeS.ev (l : List S27) (hl : l.length < 4611686018427387904) : Ev (fun k => laws_eqNoticeS.f k l l) true := by
  unfold laws_eqNoticeS.f
  refine ev_pos rfl ?_
  refine scan0 (xs := l) (fun k (_ : Unit) i => laws_eqNoticeS.l0 k l l i) (fun _ _ => true) (fun s => ?_) (fun i h s ih => ?_) ()
  · refine Ev.step (fun k => by rw [laws_eqNoticeS.l0]) ?_
    exact ev_neg (by omega) (Ev.now _)
  · refine Ev.step (fun k => by rw [laws_eqNoticeS.l0]) ?_
    refine ev_pos (by omega) (ev_pos (by omega) (ev_pos (by omega) (ev_bindc (a := true) (by simp [laws_eqNotice.f]) (ev_pos rfl ?_))))
    rw [wrap_succ (by omega)]
    exact ih ()

theorem laws_eqMailbox.ev (l : List S27) (hl : l.length < 4611686018427387904) : Ev (fun k => laws_eqMailbox.f k l l) true := by
  unfold laws_eqMailbox.f
  refine Ev.bind (laws_eqNoticeS.ev l hl) (ev_pos rfl ?_)
  exact Ev.now _

def mailOk (m : List S27) (i : Nat) : Prop := 1 ≤ (rd_T27 m i).f0 ∧ (rd_T27 m i).f0 ≤ 5 ∧ 0 ≤ (rd_T27 m i).f1 ∧ (rd_T27 m i).f1 ≤ 1000000 ∧ 0 ≤ (rd_T27 m i).f2 ∧ (rd_T27 m i).f2 ≤ 1000000 ∧ (0 < i → (rd_T27 m ((i : Int) - 1)).f2 ≤ (rd_T27 m i).f2)
noncomputable def validMailV (m : List S27) : Bool := dec ((∀ i, i < m.length → mailOk m i) ∧ m.length ≤ 30)

theorem spec_l1In.val (a b c : Int) : spec_l1In.f a b c = some (decide (b ≤ a ∧ a ≤ c)) := by
  unfold spec_l1In.f
  by_cases h : a ≥ b
  · rw [if_pos h]; simp only [ge_iff_le] at h; simp [h]
  · rw [if_neg h]; simp only [ge_iff_le] at h; simp [h]

theorem spec_IsValidMailbox.ev (m : List S27) (hl : m.length < 4611686018427387904) : Ev (fun k => spec_IsValidMailbox.f k m) (validMailV m) := by
  unfold spec_IsValidMailbox.f validMailV
  refine scan_all (n := m.length) (fun k i => spec_IsValidMailbox.l0 k i m) (mailOk m) (m.length ≤ 30) ?_ (fun i hi q r ih => ?_) (fun i hi q => ?_)
  · refine Ev.step (fun k => by rw [spec_IsValidMailbox.l0]) ?_
    refine ev_neg (by omega) (ev_const ?_)
    rw [dec_decide, dec_eq (P := (m.length : Int) ≤ 30) (Q := m.length ≤ 30) (by omega)]
  · unfold mailOk at q
    refine Ev.step (fun k => by rw [spec_IsValidMailbox.l0]) ?_
    simp only [spec_l1In.val, Option.bind_some, decide_eq_true_eq, wrap_succ (show i < 4611686018427387904 by omega), wrap_in (x := (i : Int) - 1) (by omega) (by omega)]
    repeat' (with_reducible refine ev_both (fun _ => ?_) (fun _ => ?_))
    all_goals first | exact ih | (exfalso; omega)
  · unfold mailOk at q
    refine Ev.step (fun k => by rw [spec_IsValidMailbox.l0]) ?_
    simp only [spec_l1In.val, Option.bind_some, decide_eq_true_eq, wrap_succ (show i < 4611686018427387904 by omega), wrap_in (x := (i : Int) - 1) (by omega) (by omega)]
    repeat' (with_reducible refine ev_both (fun _ => ?_) (fun _ => ?_))
    all_goals first | exact Ev.now _ | (exfalso; omega)

theorem impl_InRange.val (a b c : Int) : impl_InRange.f a b c = some (decide (b ≤ a ∧ a ≤ c)) := by
  unfold impl_InRange.f
  by_cases h : b ≤ a
  · rw [if_pos h]; simp [h]
  · rw [if_neg h]; simp [h]

theorem impl_IsValidMailbox.ev (m : List S27) (hl : m.length < 4611686018427387904) : Ev (fun k => impl_IsValidMailbox.f k m) (validMailV m) := by
  unfold impl_IsValidMailbox.f validMailV
  refine ev_both (fun e => ?_) (fun e => ?_)
  · rw [dec_false (by omega)]
    exact Ev.now _
  refine scan_all (n := m.length) (fun k i => impl_IsValidMailbox.l0 k m m.length i m) (mailOk m) (m.length ≤ 30) ?_ (fun i hi q r ih => ?_) (fun i hi q => ?_)
  · refine Ev.step (fun k => by rw [impl_IsValidMailbox.l0]) ?_
    refine ev_neg (by omega) ?_
    rw [dec_true (by omega)]
    exact Ev.now _
  · unfold mailOk at q
    refine Ev.step (fun k => by rw [impl_IsValidMailbox.l0]) ?_
    simp only [impl_InRange.val, Option.bind_some, decide_eq_true_eq, wrap_succ (show i < 4611686018427387904 by omega), wrap_in (x := (i : Int) - 1) (by omega) (by omega)]
    repeat' (with_reducible refine ev_both (fun _ => ?_) (fun _ => ?_))
    all_goals first | exact ih | (exfalso; omega)
  · unfold mailOk at q
    refine Ev.step (fun k => by rw [impl_IsValidMailbox.l0]) ?_
    simp only [impl_InRange.val, Option.bind_some, decide_eq_true_eq, wrap_succ (show i < 4611686018427387904 by omega), wrap_in (x := (i : Int) - 1) (by omega) (by omega)]
    repeat' (with_reducible refine ev_both (fun _ => ?_) (fun _ => ?_))
    all_goals first | exact Ev.now _ | (exfalso; omega)

theorem FnExactIsValidMailbox : Claim := by
  intro l ⟨hl, _⟩
  refine Ev.rounds (r := true) ?_
  unfold laws_FnExactIsValidMailbox.f
  by_cases h : (l.length : Int) ≤ 1048576
  · refine ev_bindc (laws_szMailbox.fits l _ (by omega) h) (ev_neg (by omega) ?_)
    have hm : (l.map cvNotice).length < 4611686018427387904 := by rw [List.length_map]; omega
    refine Ev.bind (laws_toMailbox.ev l (by omega)) ?_
    refine Ev.bind (spec_IsValidMailbox.ev _ hm) ?_
    refine Ev.bind (laws_toMailbox.ev l (by omega)) ?_
    refine Ev.bind (impl_IsValidMailbox.ev _ hm) (ev_neg (by simp) ?_)
    refine Ev.bind (laws_toMailbox.ev l (by omega)) ?_
    exact Ev.bind (laws_eqMailbox.ev _ hm) (ev_pos rfl (Ev.now _))
  · exact ev_bindc (laws_szMailbox.big l _ (by omega) (by omega) (by omega) hl) (ev_pos (by omega) (Ev.now _))

end Go.Proofs.Ytfaecdhobmalfaa.Pure
