/- The program's AppendRecord returns what the reference's returns, for all arguments that the row lets in; no condition besides. Here: the plain side, over the printed functions. -/
import Derived.Test.YtfaecdhobmalfaaPFnExactAppendRecordx3
import Derived.Test.YtfaecdhobmalfaaKit
namespace Go.Proofs.Ytfaecdhobmalfaa.Pure
open Go.RowKit Go.Proofs.Ytfaecdhobmalfaa.PFnExactAppendRecord Go.Proofs.YtfaecdhobmalfaaW.PrintWords Go.Proofs.YtfaecdhobmalfaaW.PrintLast Go.Proofs.YtfaecdhobmalfaaW.PrintMore Go.Proofs.Ytfaecdhobmalfaa.Kit
set_option linter.unusedVariables false
set_option linter.unusedSimpArgs false

/-- What is to be proved of the printed functions. -/
def Claim : Prop := ∀ (l0_0 : List Int), ∀ (a1 : Int), (l0_0.length ≤ maxLen ∧ ∀ y_ ∈ l0_0, (Lit.int .i64 y_).wf = true) → ((Lit.int .i64 a1).wf = true) → ∃ k, laws_FnExactAppendRecord.f k l0_0 a1 = some true

theorem laws_szIntS.fits (l : List Int) (n : Int) (h0 : n ≤ 1048576) (h : (l.length : Int) ≤ n) : laws_szIntS.f l n = some (n - l.length) := by
  unfold laws_szIntS.f
  rw [wrap_in (by omega) (by omega), if_neg (by omega)]
theorem laws_szIntS.big (l : List Int) (n : Int) (h0 : n ≤ 1048576) (h : n < (l.length : Int)) (h1 : 0 ≤ n) (hl : l.length ≤ maxLen) : laws_szIntS.f l n = some (-1) := by
  unfold maxLen at hl
  unfold laws_szIntS.f
  rw [wrap_in (by omega) (by omega), if_pos (by omega)]

theorem laws_szPublicLog.fits (l : List Int) (n : Int) (h0 : n ≤ 1048576) (h : (l.length : Int) ≤ n) : laws_szPublicLog.f l n = some (n - l.length) := by
  unfold laws_szPublicLog.f
  rw [laws_szIntS.fits l n h0 h]
  simp only [Option.bind_some]
  rw [if_neg (by omega)]
theorem laws_szPublicLog.big (l : List Int) (n : Int) (h0 : n ≤ 1048576) (h : n < (l.length : Int)) (h1 : 0 ≤ n) (hl : l.length ≤ maxLen) : laws_szPublicLog.f l n = some (-1) := by
  unfold laws_szPublicLog.f
  rw [laws_szIntS.big l n h0 h h1 hl]
  rfl

theorem laws_toIntS.ev (l : List Int) (hl : l.length < 35184372088832) : Ev (fun k => laws_toIntS.f k l) l := by
  unfold laws_toIntS.f
  refine ev_pos (by omega) (ev_pos (by omega) ?_)
  refine ev_eq (fill (xs := l) (fun x => x) (fun k s i => laws_toIntS.l0 k l s i) (fun s hs => ?_) (fun i h s hs r ih => ?_) (List.replicate ((l.length : Int)).toNat 0) (by simp)) (by simp)
  · refine Ev.step (fun k => by rw [laws_toIntS.l0]) ?_
    exact ev_neg (by omega) (Ev.now _)
  · refine Ev.step (fun k => by rw [laws_toIntS.l0]) ?_
    refine ev_pos (by omega) (ev_pos (by omega) (ev_pos (by omega) ?_))
    rw [rd_get h, wrap_succ (by omega), Int.toNat_natCast]
    exact ih

theorem laws_toPublicLog.ev (l : List Int) (hl : l.length ≤ 1048576) : Ev (fun k => laws_toPublicLog.f k l) (l) := by
  unfold laws_toPublicLog.f
  exact Ev.bind (laws_toIntS.ev l (by omega)) (Ev.now _)

theorem laws_eqIntS.ev (l : List Int) (hl : l.length < 4611686018427387904) : Ev (fun k => laws_eqIntS.f k l l) true := by
  unfold laws_eqIntS.f
  refine ev_pos rfl ?_
  refine scan0 (xs := l) (fun k (_ : Unit) i => laws_eqIntS.l0 k l l i) (fun _ _ => true) (fun s => ?_) (fun i h s ih => ?_) ()
  · refine Ev.step (fun k => by rw [laws_eqIntS.l0]) ?_
    exact ev_neg (by omega) (Ev.now _)
  · refine Ev.step (fun k => by rw [laws_eqIntS.l0]) ?_
    refine ev_pos (by omega) (ev_pos (by omega) (ev_pos (by omega) (ev_pos rfl ?_)))
    rw [wrap_succ (by omega)]
    exact ih ()

theorem laws_eqPublicLog.ev (l : List Int) (hl : l.length < 4611686018427387904) : Ev (fun k => laws_eqPublicLog.f k l l) true := by
  unfold laws_eqPublicLog.f
  refine Ev.bind (laws_eqIntS.ev l hl) (ev_pos rfl ?_)
  exact Ev.now _

def mkInt (c : Int) (_ : Int) : Int × Int := (wrap64 (c + 1), c)
theorem mkInt_list (xs : List Int) (c : Int) (h0 : 0 ≤ c) (h : c + xs.length < 4611686018427387904) : (markL mkInt xs c).1 = c + xs.length := by
  have e : (xs.map (fun _ => 1)).sum = xs.length := by
    clear h
    induction xs with
    | nil => rfl
    | cons x xs ih => simp only [List.map_cons, List.sum_cons, ih, List.length_cons]; omega
  rw [markL_count mkInt (fun _ => 1) (fun c x h0 h => by simp only [mkInt]; unfold wrap64; omega) xs c h0 (by rw [e]; omega), e]

theorem laws_markIntS.ev (l : List Int) (c : Int) (hl : l.length < 4611686018427387904) : Ev (fun k => laws_markIntS.f k l c) (markL mkInt l c) := by
  unfold laws_markIntS.f
  have key : ∀ (d i : Nat) (s : List Int) (c : Int), s.length = l.length → i + d = l.length → Ev (fun k => laws_markIntS.l0 k s c (i : Int)) ((markL mkInt (s.drop i) c).1, s.take i ++ (markL mkInt (s.drop i) c).2) := by
    intro d
    induction d with
    | zero =>
      intro i s c hs hi
      rw [List.drop_of_length_le (by omega), List.take_of_length_le (by omega)]
      refine Ev.step (fun k => by rw [laws_markIntS.l0]) ?_
      refine ev_neg (by omega) ?_
      simpa [markL] using Ev.now (c, s)
    | succ d ih =>
      intro i s c hs hi
      have h : i < s.length := by omega
      have h' := ih (i + 1) (s.set i (mkInt c s[i]).2) (mkInt c s[i]).1 (by simp [hs]) (by omega)
      rw [List.drop_eq_getElem_cons h]
      have e1 : (s.set i (mkInt c s[i]).2).drop (i + 1) = s.drop (i + 1) := by rw [List.drop_set_of_lt (by omega)]
      have e2 : (s.set i (mkInt c s[i]).2).take (i + 1) = s.take i ++ [(mkInt c s[i]).2] := by
        rw [List.take_succ_eq_append_getElem (by simpa using h), List.take_set_of_le (by omega)]
        simp
      rw [e1, e2, List.append_assoc] at h'
      refine Ev.step (fun k => by rw [laws_markIntS.l0]) ?_
      refine ev_pos (by omega) (ev_pos (by omega) ?_)
      rw [Int.toNat_natCast, wrap_succ (show i < 4611686018427387904 by omega)]
      exact h'
  have := key l.length 0 l c rfl (by omega)
  simpa using this

theorem laws_markPublicLog.ev (l : List Int) (c : Int) (hl : l.length < 4611686018427387904) : Ev (fun k => laws_markPublicLog.f k l c) ((markL mkInt l c).1, (markL mkInt l c).2) := by
  unfold laws_markPublicLog.f
  exact Ev.bind (laws_markIntS.ev l c hl) (Ev.now _)

theorem laws_heldIntS.ev (l : List Int) (c : Int) (hl : l.length < 4611686018427387904) : Ev (fun k => laws_heldIntS.f k (markL mkInt l c).2 c) (markL mkInt l c).1 := by
  unfold laws_heldIntS.f
  have key : ∀ (ys pre : List Int) (c : Int), pre.length + ys.length < 4611686018427387904 → Ev (fun k => laws_heldIntS.l0 k (pre ++ (markL mkInt ys c).2) c (pre.length : Int)) (markL mkInt ys c).1 := by
    intro ys
    induction ys with
    | nil =>
      intro pre c _
      refine Ev.step (fun k => by rw [laws_heldIntS.l0]) ?_
      refine ev_neg (by simp [markL]) ?_
      exact Ev.now _
    | cons y ys ih =>
      intro pre c hp
      have h' := ih (pre ++ [(mkInt c y).2]) (mkInt c y).1 (by simp at hp ⊢; omega)
      simp only [List.length_cons] at hp
      refine Ev.step (fun k => by rw [laws_heldIntS.l0]) ?_
      refine ev_pos (by simp [markL]; omega) (ev_pos (by omega) ?_)
      have e : rd (pre ++ (markL mkInt (y :: ys) c).2) (pre.length : Int) = (mkInt c y).2 := by simp [rd, markL]
      rw [e, wrap_succ (by omega)]
      simp only [mkInt, if_true]
      simpa [markL, mkInt] using h'
  have := key l [] c (by simpa using hl)
  simpa using this

theorem laws_heldPublicLog.ev (l : List Int) (c : Int) (hl : l.length < 4611686018427387904) (h0 : 0 ≤ (markL mkInt l c).1) : Ev (fun k => laws_heldPublicLog.f k (markL mkInt l c).2 c) (markL mkInt l c).1 := by
  unfold laws_heldPublicLog.f
  exact Ev.bind (laws_heldIntS.ev l c hl) (ev_neg (by omega) (Ev.now _))

def appendV (l : List Int) (a : Int) : List Int × Bool := if (l.length : Int) ≥ 60 then (l, false) else (l ++ [a], true)

theorem spec_AppendRecord.val (l : List Int) (a : Int) (hl : l.length < 17592186044000) : spec_AppendRecord.f l a = some (appendV l a) := by
  unfold spec_AppendRecord.f appendV
  simp only [Option.bind_some, List.nil_append, List.length_nil]
  rw [if_pos (by omega)]
  by_cases h : (l.length : Int) ≥ 60
  · rw [if_pos h, if_pos h]
  · rw [if_neg h, if_neg h, if_pos (by omega)]

theorem impl_joined.ev (l : List Int) (ls : List (List Int)) (hls : ls.length < 4611686018427387904) (hl : l.length + (ls.flatten).length < 17592186044416) : Ev (fun k => impl_joined.f k l ls) (l ++ ls.flatten) := by
  unfold impl_joined.f
  simp only [Option.bind_some, List.nil_append, List.length_nil]
  refine ev_pos (by omega) ?_
  have key : ∀ (d i : Nat), i + d = ls.length → ∀ s : List Int, s.length + ((ls.drop i).flatten).length < 17592186044416 → Ev (fun k => impl_joined.l0 k s ls ls.length (i : Int)) (s ++ (ls.drop i).flatten) := by
    intro d
    induction d with
    | zero =>
      intro i hi s hs
      rw [List.drop_of_length_le (by omega)]
      refine Ev.step (fun k => by rw [impl_joined.l0]) ?_
      refine ev_neg (by omega) ?_
      simpa using Ev.now s
    | succ d ih =>
      intro i hi s hs
      have h : i < ls.length := by omega
      rw [List.drop_eq_getElem_cons h] at hs ⊢
      simp only [List.flatten_cons, List.length_append] at hs ⊢
      refine Ev.step (fun k => by rw [impl_joined.l0]) ?_
      refine ev_pos (by omega) (ev_pos (by omega) (ev_pos (by omega) ?_))
      simp only [rd_L1, getD_get h, wrap_succ (show i < 4611686018427387904 by omega)]
      refine ev_pos (by omega) ?_
      have := ih (i + 1) (by omega) (s ++ ls[i]) (by rw [List.length_append]; omega)
      rwa [List.append_assoc] at this
  exact key ls.length 0 (by omega) l hl

theorem impl_AppendRecord.ev (l : List Int) (a : Int) (hl : l.length < 17592186044000) : Ev (fun k => impl_AppendRecord.f k l a) (appendV l a) := by
  unfold impl_AppendRecord.f appendV
  refine ev_ite (fun h => ?_) (fun h => ?_)
  · refine Ev.bind (impl_joined.ev l [] (by simp) (by simp; omega)) ?_
    simpa using Ev.now (l, false)
  · refine Ev.bind (impl_joined.ev l [[a]] (by simp) (by simp; omega)) ?_
    simpa using Ev.now (l ++ [a], true)

theorem FnExactAppendRecord : Claim := by
  intro l a ⟨hl, _⟩ _
  refine Ev.rounds (r := true) ?_
  unfold laws_FnExactAppendRecord.f
  by_cases h : (l.length : Int) ≤ 1048576
  · refine ev_bindc (laws_szPublicLog.fits l _ (by omega) h) (ev_neg (by omega) ?_)
    have hv : (appendV l a).1.length ≤ l.length + 1 := by unfold appendV; split <;> simp
    generalize hv2 : appendV l a = v at hv
    have hc := mkInt_list v.1 1 (by omega) (by omega)
    have hc2 := mkInt_list l 1 (by omega) (by omega)
    refine Ev.bind (laws_toPublicLog.ev l (by omega)) ?_
    refine ev_bindc ((spec_AppendRecord.val l a (by omega)).trans (congrArg some hv2)) ?_
    refine Ev.bind (laws_toPublicLog.ev l (by omega)) ?_
    refine Ev.bind (ev_eq (impl_AppendRecord.ev l a (by omega)) hv2) ?_
    refine Ev.bind (laws_eqPublicLog.ev v.1 (by omega)) (ev_pos rfl ?_)
    refine Ev.step (fun k => by rw [laws_FnExactAppendRecord.j0]) ?_
    refine ev_neg (by simp) ?_
    refine Ev.bind (laws_toPublicLog.ev l (by omega)) (Ev.bind (laws_eqPublicLog.ev l (by omega)) (ev_pos rfl ?_))
    refine Ev.bind (laws_markPublicLog.ev l 1 (by omega)) (ev_neg (by rw [hc2]; omega) ?_)
    refine Ev.bind (laws_eqPublicLog.ev v.1 (by omega)) (ev_pos rfl ?_)
    refine Ev.step (fun k => by rw [laws_FnExactAppendRecord.j1]) ?_
    refine ev_neg (by simp) ?_
    refine Ev.bind (laws_markPublicLog.ev v.1 1 (by omega)) ?_
    refine Ev.bind (laws_heldPublicLog.ev v.1 1 (by omega) (by omega)) (ev_neg (by rw [hc]; omega) (ev_pos rfl ?_))
    refine Ev.bind (laws_toPublicLog.ev l (by omega)) ?_
    refine Ev.bind (ev_eq (impl_AppendRecord.ev l a (by omega)) hv2) ?_
    refine Ev.bind (laws_eqPublicLog.ev v.1 (by omega)) (ev_pos rfl ?_)
    refine Ev.step (fun k => by rw [laws_FnExactAppendRecord.j2]) ?_
    refine ev_neg (by simp) ?_
    exact Ev.bind (laws_heldPublicLog.ev v.1 1 (by omega) (by omega)) (ev_neg (by rw [hc]; omega) (ev_pos rfl (Ev.now _)))
  · exact ev_bindc (laws_szPublicLog.big l _ (by omega) (by omega) (by omega) hl) (ev_pos (by omega) (Ev.now _))

end Go.Proofs.Ytfaecdhobmalfaa.Pure
