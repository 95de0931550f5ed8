/- The program's ReadNotices returns what the reference's returns, for all arguments that the row lets in; no condition besides. Here: the plain side, over the printed functions. -/
import Derived.Test.YtanoaneoanpkkaaZFnExactReadNoticesx3
import Derived.Test.YtanoaneoanpkkaaKitV
namespace Go.Proofs.Ytanoaneoanpkkaa.Pure
open Go.RowKit Go.Proofs.Ytanoaneoanpkkaa.ZFnExactReadNotices Go.Proofs.YtanoaneoanpkkaaW.PrintWords Go.Proofs.YtanoaneoanpkkaaW.PrintLast Go.Proofs.YtanoaneoanpkkaaW.PrintMore Go.Proofs.Ytanoaneoanpkkaa.Kit
set_option linter.unusedVariables false
set_option linter.unusedSimpArgs false

/-- What is known of a Notice that came in. -/
def W153 (x : S153) : Prop := ((Lit.int .i64 x.f0).wf = true) ∧ ((Lit.int .i64 x.f1).wf = true) ∧ ((Lit.int .i64 x.f2).wf = true) ∧ (True)
/-- What is to be proved of the printed functions. -/
def Claim : Prop := ∀ (l0_0 : List (S153)), (l0_0.length ≤ maxLen ∧ ∀ y_ ∈ l0_0, W153 y_) → ∃ k, laws_FnExactReadNotices.f k l0_0 = some true

theorem laws_szNoticeS.fits (l : List S153) (n : Int) (h0 : n ≤ 1048576) (h : (l.length : Int) ≤ n) : laws_szNoticeS.f l n = some (n - l.length) := by
  unfold laws_szNoticeS.f
  rw [wrap_in (by omega) (by omega), if_neg (by omega)]
theorem laws_szNoticeS.big (l : List S153) (n : Int) (h0 : n ≤ 1048576) (h : n < (l.length : Int)) (h1 : 0 ≤ n) (hl : l.length ≤ maxLen) : laws_szNoticeS.f l n = some (-1) := by
  unfold maxLen at hl
  unfold laws_szNoticeS.f
  rw [wrap_in (by omega) (by omega), if_pos (by omega)]

theorem laws_szMailbox.fits (l : List S153) (n : Int) (h0 : n ≤ 1048576) (h : (l.length : Int) ≤ n) : laws_szMailbox.f l n = some (n - l.length) := by
  unfold laws_szMailbox.f
  rw [laws_szNoticeS.fits l n h0 h]
  simp only [Option.bind_some]
  rw [if_neg (by omega)]
theorem laws_szMailbox.big (l : List S153) (n : Int) (h0 : n ≤ 1048576) (h : n < (l.length : Int)) (h1 : 0 ≤ n) (hl : l.length ≤ maxLen) : laws_szMailbox.f l n = some (-1) := by
  unfold laws_szMailbox.f
  rw [laws_szNoticeS.big l n h0 h h1 hl]
  rfl

def cvNotice (x : S153) : S108 := ⟨x.f0, x.f1, x.f2, x.f3⟩

theorem laws_toNoticeS.ev (l : List S153) (hl : l.length ≤ 1048576) : Ev (fun k => laws_toNoticeS.f k l) (l.map cvNotice) := by
  unfold laws_toNoticeS.f
  refine ev_pos (by omega) (ev_pos (by omega) ?_)
  refine fill (xs := l) cvNotice (fun k s i => laws_toNoticeS.l0 k l i s) (fun s hs => ?_) (fun i h s hs r ih => ?_) (List.replicate ((l.length : Int)).toNat z108) (by simp)
  · refine Ev.step (fun k => by rw [laws_toNoticeS.l0]) ?_
    exact ev_neg (by omega) (Ev.now _)
  · refine Ev.step (fun k => by rw [laws_toNoticeS.l0]) ?_
    refine ev_pos (by omega) (ev_pos (by omega) (ev_bindc rfl (ev_pos (by omega) ?_)))
    simp only [rd_T153, Int.toNat_natCast, getD_nat h, wrap_succ (show i < 4611686018427387904 by omega)]
    exact ih

theorem laws_toMailbox.ev (l : List S153) (hl : l.length ≤ 1048576) : Ev (fun k => laws_toMailbox.f k l) (l.map cvNotice) := by
  unfold laws_toMailbox.f
  exact Ev.bind (laws_toNoticeS.ev l (by omega)) (Ev.now _)

theorem laws_eqNoticeS.ev (l : List S108) (hl : l.length < 4611686018427387904) : Ev (fun k => laws_eqNoticeS.f k l l) true := by
  unfold laws_eqNoticeS.f
  refine ev_pos rfl ?_
  refine scan0 (xs := l) (fun k (_ : Unit) i => laws_eqNoticeS.l0 k l l i) (fun _ _ => true) (fun s => ?_) (fun i h s ih => ?_) ()
  · refine Ev.step (fun k => by rw [laws_eqNoticeS.l0]) ?_
    exact ev_neg (by omega) (Ev.now _)
  · refine Ev.step (fun k => by rw [laws_eqNoticeS.l0]) ?_
    refine ev_pos (by omega) (ev_pos (by omega) (ev_pos (by omega) (ev_bindc (a := true) (by simp [laws_eqNotice.f]) (ev_pos rfl ?_))))
    rw [wrap_succ (by omega)]
    exact ih ()

theorem laws_eqMailbox.ev (l : List S108) (hl : l.length < 4611686018427387904) : Ev (fun k => laws_eqMailbox.f k l l) true := by
  unfold laws_eqMailbox.f
  refine Ev.bind (laws_eqNoticeS.ev l hl) (ev_pos rfl ?_)
  exact Ev.now _

def mkNotice (c : Int) (_ : S108) : Int × S108 := (wrap64 ((wrap64 ((wrap64 ((wrap64 (c + 1)) + 1)) + 1)) + 1), ⟨c, wrap64 (c + 1), wrap64 ((wrap64 (c + 1)) + 1), (Int.tmod (wrap64 ((wrap64 ((wrap64 (c + 1)) + 1)) + 1)) 3 == 0)⟩)
theorem mkNotice_count (c : Int) (x : S108) (h0 : 0 ≤ c) (h : c + (4 : Nat) < 4611686018427387904) : (mkNotice c x).1 = c + (4 : Nat) := by
  simp only [mkNotice]
  unfold wrap64
  omega
theorem mkNotice_list (xs : List S108) (c : Int) (h0 : 0 ≤ c) (h : c + 4 * xs.length < 4611686018427387904) : (markL mkNotice xs c).1 = c + 4 * xs.length := by
  have e : (xs.map (fun _ => 4)).sum = 4 * xs.length := by
    clear h
    induction xs with
    | nil => rfl
    | cons x xs ih => simp only [List.map_cons, List.sum_cons, ih, List.length_cons]; omega
  rw [markL_count mkNotice (fun _ => 4) (fun c x => mkNotice_count c x) xs c h0 (by rw [e]; push_cast; omega), e]
  push_cast
  rfl

theorem laws_markNoticeS.ev (l : List S108) (c : Int) (hl : l.length < 4611686018427387904) : Ev (fun k => laws_markNoticeS.f k l c) (markL mkNotice l c) := by
  unfold laws_markNoticeS.f
  have key : ∀ (d i : Nat) (s : List S108) (c : Int), s.length = l.length → i + d = l.length → Ev (fun k => laws_markNoticeS.l0 k s c (i : Int)) ((markL mkNotice (s.drop i) c).1, s.take i ++ (markL mkNotice (s.drop i) c).2) := by
    intro d
    induction d with
    | zero =>
      intro i s c hs hi
      rw [List.drop_of_length_le (by omega), List.take_of_length_le (by omega)]
      refine Ev.step (fun k => by rw [laws_markNoticeS.l0]) ?_
      refine ev_neg (by omega) ?_
      simpa [markL] using Ev.now (c, s)
    | succ d ih =>
      intro i s c hs hi
      have h : i < s.length := by omega
      have h' := ih (i + 1) (s.set i (mkNotice c s[i]).2) (mkNotice c s[i]).1 (by simp [hs]) (by omega)
      rw [List.drop_eq_getElem_cons h]
      have e1 : (s.set i (mkNotice c s[i]).2).drop (i + 1) = s.drop (i + 1) := by rw [List.drop_set_of_lt (by omega)]
      have e2 : (s.set i (mkNotice c s[i]).2).take (i + 1) = s.take i ++ [(mkNotice c s[i]).2] := by
        rw [List.take_succ_eq_append_getElem (by simpa using h), List.take_set_of_le (by omega)]
        simp
      rw [e1, e2, List.append_assoc] at h'
      refine Ev.step (fun k => by rw [laws_markNoticeS.l0]) ?_
      refine ev_pos (by omega) (ev_pos (by omega) ?_)
      simp only [Option.bind_some, rd_T108, Int.toNat_natCast, getD_set h, List.set_set, wrap_succ (show i < 4611686018427387904 by omega)]
      exact h'
  have := key l.length 0 l c rfl (by omega)
  simpa using this

theorem laws_markMailbox.ev (l : List S108) (c : Int) (hl : l.length < 4611686018427387904) : Ev (fun k => laws_markMailbox.f k l c) (markL mkNotice l c) := by
  unfold laws_markMailbox.f
  exact Ev.bind (laws_markNoticeS.ev l c hl) (Ev.now _)

theorem laws_heldNoticeS.ev (l : List S108) (c : Int) (hl : l.length < 4611686018427387904) : Ev (fun k => laws_heldNoticeS.f k (markL mkNotice l c).2 c) (markL mkNotice l c).1 := by
  unfold laws_heldNoticeS.f
  have hl' : (markL mkNotice l c).2.length < 4611686018427387904 := by rw [markL_length]; exact hl
  have key : ∀ (ys pre : List S108) (c : Int), pre.length + ys.length < 4611686018427387904 → Ev (fun k => laws_heldNoticeS.l0 k (pre ++ (markL mkNotice ys c).2) c (pre.length : Int)) (markL mkNotice ys c).1 := by
    intro ys
    induction ys with
    | nil =>
      intro pre c _
      refine Ev.step (fun k => by rw [laws_heldNoticeS.l0]) ?_
      refine ev_neg (by simp [markL]) ?_
      exact Ev.now _
    | cons y ys ih =>
      intro pre c hp
      have h' := ih (pre ++ [(mkNotice c y).2]) (mkNotice c y).1 (by simp at hp ⊢; omega)
      simp only [List.length_cons] at hp
      refine Ev.step (fun k => by rw [laws_heldNoticeS.l0]) ?_
      refine ev_pos (by simp [markL]; omega) (ev_pos (by omega) ?_)
      have e : rd_T108 (pre ++ (markL mkNotice (y :: ys) c).2) (pre.length : Int) = (mkNotice c y).2 := by simp [rd_T108, markL]
      rw [e, wrap_succ (by omega)]
      simp only [mkNotice, ne_eq, if_true, bne_self_eq_false, Bool.false_eq_true, if_false]
      simpa [markL, mkNotice] using h'
  have := key l [] c (by simpa using hl)
  simpa using this

theorem laws_heldMailbox.ev (l : List S108) (c : Int) (hl : l.length < 4611686018427387904) (h0 : 0 ≤ (markL mkNotice l c).1) : Ev (fun k => laws_heldMailbox.f k (markL mkNotice l c).2 c) (markL mkNotice l c).1 := by
  unfold laws_heldMailbox.f
  exact Ev.bind (laws_heldNoticeS.ev l c hl) (ev_neg (by omega) (Ev.now _))

def seenN (x : S108) : S108 := ⟨x.f0, x.f1, x.f2, true⟩
def freshV (l : List S108) : List S108 := l.filter (fun x => !x.f3)
theorem fresh_snoc (l : List S108) (i : Nat) (h : i < l.length) : freshV (l.take (i + 1)) = if l[i].f3 = true then freshV (l.take i) else freshV (l.take i) ++ [l[i]] := by
  unfold freshV
  rw [List.take_succ_eq_append_getElem h, List.filter_append]
  cases e : l[i].f3 <;> simp [e]
theorem fresh_length (l : List S108) : (freshV l).length ≤ l.length := List.length_filter_le _ _
theorem seen_get (l : List S108) (i : Nat) (h : i < l.length) : ((l.take i).map seenN ++ l.drop i)[i]'(by simp; omega) = l[i] := by
  rw [List.getElem_append_right (by simp; omega)]
  simp [Nat.min_eq_left (Nat.le_of_lt h)]
theorem seen_set (l : List S108) (i : Nat) (h : i < l.length) : ((l.take i).map seenN ++ l.drop i).set i (seenN l[i]) = (l.take (i + 1)).map seenN ++ l.drop (i + 1) := by
  have e : ((l.take i).map seenN).length = i := by simp; omega
  rw [List.set_append_right _ _ (by omega), e, Nat.sub_self, List.drop_eq_getElem_cons h, List.set_cons_zero, List.take_succ_eq_append_getElem h, List.map_append, List.append_assoc]
  rfl

theorem spec_l31Copy.val (l : List S108) (hl : l.length < 4398046511104) : spec_l31Copy.f l = some l := by
  unfold spec_l31Copy.f
  simp only [Option.bind_some, List.nil_append, List.length_nil, Nat.zero_add]
  rw [if_pos hl]

theorem spec_ReadNotices.ev (l : List S108) (hl : l.length < 4398046511104) : Ev (fun k => spec_ReadNotices.f k l) (l.map seenN, freshV l) := by
  unfold spec_ReadNotices.f
  refine ev_bindc (spec_l31Copy.val l hl) ?_
  have key : ∀ (d i : Nat), i + d = l.length → Ev (fun k => spec_ReadNotices.l0 k (freshV (l.take i)) (i : Int) l ((l.take i).map seenN ++ l.drop i)) (l.map seenN, freshV l) := by
    intro d
    induction d with
    | zero =>
      intro i hi
      refine Ev.step (fun k => by rw [spec_ReadNotices.l0]) ?_
      refine ev_neg (by omega) ?_
      rw [List.take_of_length_le (by omega), List.drop_of_length_le (by omega), List.append_nil]
      exact Ev.now _
    | succ d ih =>
      intro i hi
      have h : i < l.length := by omega
      have hlen : ((l.take i).map seenN ++ l.drop i).length = l.length := by simp; omega
      have hf := fresh_length (l.take i)
      have hft : (l.take i).length ≤ l.length := by simp; omega
      have next := ih (i + 1) (by omega)
      rw [fresh_snoc l i h, ← seen_set l i h] at next
      refine Ev.step (fun k => by rw [spec_ReadNotices.l0]) ?_
      have g1 : rd_T108 l (i : Int) = l[i] := by rw [rd_T108, getD_get h]
      have g2 : rd_T108 ((l.take i).map seenN ++ l.drop i) (i : Int) = l[i] := by rw [rd_T108, getD_get (by omega), seen_get l i h]
      rw [g1, g2, wrap_succ (i := i) (by omega), Int.toNat_natCast]
      refine ev_pos (by omega) (ev_pos (by omega) (ev_both (fun hs => ?_) (fun hs => ?_)))
      · rw [if_pos hs] at next
        exact ev_pos (by omega) next
      · rw [if_neg hs] at next
        exact ev_pos (by omega) (ev_pos (by omega) next)
  exact key l.length 0 (by omega)

theorem impl_copyMail.val (l : List S108) (hl : l.length < 4398046511104) : impl_copyMail.f l = some l := by
  unfold impl_copyMail.f
  simp only [Option.bind_some, List.nil_append, List.length_nil, Nat.zero_add]
  rw [if_pos hl]

theorem impl_ReadNotices.ev (l : List S108) (hl : l.length < 4398046511104) : Ev (fun k => impl_ReadNotices.f k l) (l.map seenN, freshV l) := by
  unfold impl_ReadNotices.f
  refine ev_bindc (impl_copyMail.val l hl) ?_
  have key : ∀ (d i : Nat), i + d = l.length → Ev (fun k => impl_ReadNotices.l0 k (freshV (l.take i)) (l.length : Int) (i : Int) ((l.take i).map seenN ++ l.drop i)) (l.map seenN, freshV l) := by
    intro d
    induction d with
    | zero =>
      intro i hi
      refine Ev.step (fun k => by rw [impl_ReadNotices.l0]) ?_
      refine ev_neg (by omega) ?_
      rw [List.take_of_length_le (by omega), List.drop_of_length_le (by omega), List.append_nil]
      exact Ev.now _
    | succ d ih =>
      intro i hi
      have h : i < l.length := by omega
      have hlen : ((l.take i).map seenN ++ l.drop i).length = l.length := by simp; omega
      have hf := fresh_length (l.take i)
      have hft : (l.take i).length ≤ l.length := by simp; omega
      have next := ih (i + 1) (by omega)
      rw [fresh_snoc l i h, ← seen_set l i h] at next
      refine Ev.step (fun k => by rw [impl_ReadNotices.l0]) ?_
      have g2 : rd_T108 ((l.take i).map seenN ++ l.drop i) (i : Int) = l[i] := by rw [rd_T108, getD_get (by omega), seen_get l i h]
      rw [g2, wrap_succ (i := i) (by omega), Int.toNat_natCast]
      refine ev_pos (by omega) (ev_pos (by omega) (ev_pos (by omega) (ev_both (fun hs => ?_) (fun hs => ?_))))
      · rw [if_pos hs] at next
        exact next
      · rw [if_neg hs] at next
        exact ev_pos (by omega) next
  exact key l.length 0 (by omega)

theorem FnExactReadNotices : Claim := by
  intro l ⟨hl, _⟩
  refine Ev.rounds (r := true) ?_
  unfold laws_FnExactReadNotices.f
  by_cases hs : (l.length : Int) ≤ 1048576
  · refine ev_bindc (laws_szMailbox.fits l _ (by omega) hs) (ev_neg (by omega) ?_)
    have hm : (l.map cvNotice).length ≤ 1048576 := by rw [List.length_map]; omega
    generalize hL : l.map cvNotice = L at hm
    have toM : Ev (fun k => laws_toMailbox.f k l) L := ev_eq (laws_toMailbox.ev l (by omega)) hL
    have es := spec_ReadNotices.ev L (by omega)
    have ei := impl_ReadNotices.ev L (by omega)
    have h1 : (L.map seenN).length ≤ 1048576 := by rw [List.length_map]; omega
    have h2 : (freshV L).length ≤ 1048576 := by have := fresh_length L; omega
    generalize L.map seenN = A at h1 es ei
    generalize freshV L = B at h2 es ei
    have hc := mkNotice_list L 1 (by omega) (by omega)
    have hcA := mkNotice_list A 1 (by omega) (by omega)
    have hcB := mkNotice_list B (markL mkNotice A 1).1 (by rw [hcA]; omega) (by rw [hcA]; omega)
    refine Ev.bind toM (Ev.bind es (Ev.bind toM (Ev.bind ei ?_)))
    refine Ev.bind (laws_eqMailbox.ev A (by omega)) (ev_pos rfl (Ev.bind (laws_eqNoticeS.ev B (by omega)) (ev_pos rfl ?_)))
    refine Ev.bind toM (Ev.bind (laws_eqMailbox.ev L (by omega)) (ev_pos rfl ?_))
    refine Ev.bind (laws_markMailbox.ev L 1 (by omega)) (ev_neg (by rw [hc]; omega) ?_)
    refine Ev.bind (laws_eqMailbox.ev A (by omega)) (ev_pos rfl (Ev.bind (laws_eqNoticeS.ev B (by omega)) (ev_pos rfl ?_)))
    refine Ev.bind (laws_markMailbox.ev A 1 (by omega)) (Ev.bind (laws_markNoticeS.ev B _ (by omega)) ?_)
    refine Ev.bind (laws_heldMailbox.ev A 1 (by omega) (by omega)) (ev_neg (by rw [hcA]; omega) ?_)
    refine Ev.bind (laws_heldNoticeS.ev B _ (by omega)) (ev_neg (by rw [hcB, hcA]; omega) (ev_pos rfl ?_))
    refine Ev.bind toM (Ev.bind ei ?_)
    refine Ev.bind (laws_eqMailbox.ev A (by omega)) (ev_pos rfl (Ev.bind (laws_eqNoticeS.ev B (by omega)) (ev_pos rfl ?_)))
    refine Ev.bind (laws_heldMailbox.ev A 1 (by omega) (by omega)) (ev_neg (by rw [hcA]; omega) ?_)
    exact Ev.bind (laws_heldNoticeS.ev B _ (by omega)) (ev_neg (by rw [hcB, hcA]; omega) (ev_pos rfl (Ev.now _)))
  · exact ev_bindc (laws_szMailbox.big l _ (by omega) (by omega) (by omega) hl) (ev_pos (by omega) (Ev.now _))

end Go.Proofs.Ytanoaneoanpkkaa.Pure
