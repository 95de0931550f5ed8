/- The program's UnseenOf returns what the reference's returns, for all arguments that the row lets in; no condition besides. Here: the plain side, over the printed functions. -/
import Derived.Test.YtfaecdhobmalfaaPFnExactUnseenOfx2
import Derived.Test.YtfaecdhobmalfaaKit
namespace Go.Proofs.Ytfaecdhobmalfaa.Pure
open Go.RowKit Go.Proofs.Ytfaecdhobmalfaa.PFnExactUnseenOf Go.Proofs.YtfaecdhobmalfaaW.PrintWords Go.Proofs.YtfaecdhobmalfaaW.PrintLast Go.Proofs.YtfaecdhobmalfaaW.PrintMore Go.Proofs.Ytfaecdhobmalfaa.Kit
set_option linter.unusedVariables false
set_option linter.unusedSimpArgs false

/-- What is known of a Notice that came in. -/
def W121 (x : S121) : Prop := ((Lit.int .i64 x.f0).wf = true) ∧ ((Lit.int .i64 x.f1).wf = true) ∧ ((Lit.int .i64 x.f2).wf = true) ∧ (True)
/-- What is to be proved of the printed functions. -/
def Claim : Prop := ∀ (l0_0 : List (S121)), ∀ (a1 : Int), (l0_0.length ≤ maxLen ∧ ∀ y_ ∈ l0_0, W121 y_) → ((Lit.int .i64 a1).wf = true) → ∃ k, laws_FnExactUnseenOf.f k l0_0 a1 = some true

theorem laws_szNoticeS.fits (l : List S121) (n : Int) (h0 : n ≤ 1048576) (h : (l.length : Int) ≤ n) : laws_szNoticeS.f l n = some (n - l.length) := by
  unfold laws_szNoticeS.f
  rw [wrap_in (by omega) (by omega), if_neg (by omega)]
theorem laws_szNoticeS.big (l : List S121) (n : Int) (h0 : n ≤ 1048576) (h : n < (l.length : Int)) (h1 : 0 ≤ n) (hl : l.length ≤ maxLen) : laws_szNoticeS.f l n = some (-1) := by
  unfold maxLen at hl
  unfold laws_szNoticeS.f
  rw [wrap_in (by omega) (by omega), if_pos (by omega)]

theorem laws_szMailbox.fits (l : List S121) (n : Int) (h0 : n ≤ 1048576) (h : (l.length : Int) ≤ n) : laws_szMailbox.f l n = some (n - l.length) := by
  unfold laws_szMailbox.f
  rw [laws_szNoticeS.fits l n h0 h]
  simp only [Option.bind_some]
  rw [if_neg (by omega)]
theorem laws_szMailbox.big (l : List S121) (n : Int) (h0 : n ≤ 1048576) (h : n < (l.length : Int)) (h1 : 0 ≤ n) (hl : l.length ≤ maxLen) : laws_szMailbox.f l n = some (-1) := by
  unfold laws_szMailbox.f
  rw [laws_szNoticeS.big l n h0 h h1 hl]
  rfl

def cvNotice (x : S121) : S27 := ⟨x.f0, x.f1, x.f2, x.f3⟩

theorem laws_toNoticeS.ev (l : List S121) (hl : l.length ≤ 1048576) : Ev (fun k => laws_toNoticeS.f k l) (l.map cvNotice) := by
  unfold laws_toNoticeS.f
  refine ev_pos (by omega) (ev_pos (by omega) ?_)
  refine fill (xs := l) cvNotice (fun k s i => laws_toNoticeS.l0 k l s i) (fun s hs => ?_) (fun i h s hs r ih => ?_) (List.replicate ((l.length : Int)).toNat z27) (by simp)
  · refine Ev.step (fun k => by rw [laws_toNoticeS.l0]) ?_
    exact ev_neg (by omega) (Ev.now _)
  · refine Ev.step (fun k => by rw [laws_toNoticeS.l0]) ?_
    refine ev_pos (by omega) (ev_pos (by omega) (ev_bindc rfl (ev_pos (by omega) ?_)))
    simp only [rd_T121, Int.toNat_natCast, getD_nat h, wrap_succ (show i < 4611686018427387904 by omega)]
    exact ih

theorem laws_toMailbox.ev (l : List S121) (hl : l.length ≤ 1048576) : Ev (fun k => laws_toMailbox.f k l) (l.map cvNotice) := by
  unfold laws_toMailbox.f
  exact Ev.bind (laws_toNoticeS.ev l (by omega)) (Ev.now _)

theorem laws_eqNoticeS.ev (l : List S27) (hl : l.length < 4611686018427387904) : Ev (fun k => laws_eqNoticeS.f k l l) true := by
  unfold laws_eqNoticeS.f
  refine ev_pos rfl ?_
  refine scan0 (xs := l) (fun k (_ : Unit) i => laws_eqNoticeS.l0 k l l i) (fun _ _ => true) (fun s => ?_) (fun i h s ih => ?_) ()
  · refine Ev.step (fun k => by rw [laws_eqNoticeS.l0]) ?_
    exact ev_neg (by omega) (Ev.now _)
  · refine Ev.step (fun k => by rw [laws_eqNoticeS.l0]) ?_
    refine ev_pos (by omega) (ev_pos (by omega) (ev_pos (by omega) (ev_bindc (a := true) (by simp [laws_eqNotice.f]) (ev_pos rfl ?_))))
    rw [wrap_succ (by omega)]
    exact ih ()

theorem laws_eqMailbox.ev (l : List S27) (hl : l.length < 4611686018427387904) : Ev (fun k => laws_eqMailbox.f k l l) true := by
  unfold laws_eqMailbox.f
  refine Ev.bind (laws_eqNoticeS.ev l hl) (ev_pos rfl ?_)
  exact Ev.now _

def unseenGo (kind : Int) : List S27 → Int → Int
  | [], n => n
  | x :: xs, n => unseenGo kind xs (if x.f0 = kind then (if x.f3 = true then n else wrap64 (n + 1)) else n)
def unseenV (l : List S27) (kind : Int) : Int := unseenGo kind l 0

theorem spec_UnseenOf.ev (l : List S27) (a : Int) (hl : l.length < 4611686018427387904) : Ev (fun k => spec_UnseenOf.f k l a) (unseenV l a) := by
  unfold spec_UnseenOf.f unseenV
  refine scan0 (xs := l) (fun k n i => spec_UnseenOf.l0 k a n i l) (unseenGo a) (fun s => ?_) (fun i h s ih => ?_) 0
  · refine Ev.step (fun k => by rw [spec_UnseenOf.l0]) ?_
    exact ev_neg (by omega) (Ev.now _)
  · refine Ev.step (fun k => by rw [spec_UnseenOf.l0]) ?_
    refine ev_pos (by omega) (ev_pos (by omega) ?_)
    rw [rd_T27, getD_get h, wrap_succ (show i < 4611686018427387904 by omega)]
    simp only [unseenGo]
    refine ev_both (fun e => ev_both (fun e2 => ?_) (fun e2 => ?_)) (fun e => ?_)
    · rw [if_pos e, if_pos e2]; exact ih _
    · rw [if_pos e, if_neg e2]; exact ih _
    · rw [if_neg e]; exact ih _

theorem impl_UnseenOf.ev (l : List S27) (a : Int) (hl : l.length < 4611686018427387904) : Ev (fun k => impl_UnseenOf.f k l a) (unseenV l a) := by
  unfold impl_UnseenOf.f unseenV
  refine scan0 (xs := l) (fun k n i => impl_UnseenOf.l0 k a n l l.length i) (unseenGo a) (fun s => ?_) (fun i h s ih => ?_) 0
  · refine Ev.step (fun k => by rw [impl_UnseenOf.l0]) ?_
    exact ev_neg (by omega) (Ev.now _)
  · refine Ev.step (fun k => by rw [impl_UnseenOf.l0]) ?_
    refine ev_pos (by omega) (ev_pos (by omega) (ev_pos (by omega) ?_))
    rw [rd_T27, getD_get h, wrap_succ (show i < 4611686018427387904 by omega)]
    simp only [unseenGo]
    refine ev_both (fun e => ev_both (fun e2 => ?_) (fun e2 => ?_)) (fun e => ?_)
    · rw [if_pos e, if_pos e2]; exact ih _
    · rw [if_pos e, if_neg e2]; exact ih _
    · rw [if_neg e]; exact ih _

theorem FnExactUnseenOf : Claim := by
  intro l a ⟨hl, _⟩ _
  refine Ev.rounds (r := true) ?_
  unfold laws_FnExactUnseenOf.f
  by_cases h : (l.length : Int) ≤ 1048576
  · refine ev_bindc (laws_szMailbox.fits l _ (by omega) h) (ev_neg (by omega) ?_)
    have hm : (l.map cvNotice).length < 4611686018427387904 := by rw [List.length_map]; omega
    refine Ev.bind (laws_toMailbox.ev l (by omega)) ?_
    refine Ev.bind (spec_UnseenOf.ev _ a hm) ?_
    refine Ev.bind (laws_toMailbox.ev l (by omega)) ?_
    refine Ev.bind (impl_UnseenOf.ev _ a hm) (ev_pos rfl ?_)
    refine Ev.bind (laws_toMailbox.ev l (by omega)) ?_
    exact Ev.bind (laws_eqMailbox.ev _ hm) (ev_pos rfl (Ev.now _))
  · exact ev_bindc (laws_szMailbox.big l _ (by omega) (by omega) (by omega) hl) (ev_pos (by omega) (Ev.now _))

end Go.Proofs.Ytfaecdhobmalfaa.Pure
