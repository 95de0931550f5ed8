/- The program's SendNotice returns what the reference's returns, for all arguments that the row lets in; no condition besides. Here: the plain side, over the printed functions. -/
import Derived.Test.YtanoaneoanpkkaaZFnExactSendNoticex6
import Derived.Test.YtanoaneoanpkkaaKitV
namespace Go.Proofs.Ytanoaneoanpkkaa.Pure
open Go.RowKit Go.Proofs.Ytanoaneoanpkkaa.ZFnExactSendNotice Go.Proofs.YtanoaneoanpkkaaW.PrintWords Go.Proofs.YtanoaneoanpkkaaW.PrintLast Go.Proofs.YtanoaneoanpkkaaW.PrintMore Go.Proofs.Ytanoaneoanpkkaa.Kit
set_option linter.unusedVariables false
set_option linter.unusedSimpArgs false

/-- What is known of a Notice that came in. -/
def W153 (x : S153) : Prop := ((Lit.int .i64 x.f0).wf = true) ∧ ((Lit.int .i64 x.f1).wf = true) ∧ ((Lit.int .i64 x.f2).wf = true) ∧ (True)
/-- What is to be proved of the printed functions. -/
def Claim : Prop := ∀ (l0_0 : List (S153)), ∀ (a1 : Int), ∀ (a2 : Int), ∀ (a3 : Int), (l0_0.length ≤ maxLen ∧ ∀ y_ ∈ l0_0, W153 y_) → ((Lit.int .i64 a1).wf = true) → ((Lit.int .i64 a2).wf = true) → ((Lit.int .i64 a3).wf = true) → ∃ k, laws_FnExactSendNotice.f k l0_0 a1 a2 a3 = some true

theorem laws_szNoticeS.fits (l : List S153) (n : Int) (h0 : n ≤ 1048576) (h : (l.length : Int) ≤ n) : laws_szNoticeS.f l n = some (n - l.length) := by
  unfold laws_szNoticeS.f
  rw [wrap_in (by omega) (by omega), if_neg (by omega)]
theorem laws_szNoticeS.big (l : List S153) (n : Int) (h0 : n ≤ 1048576) (h : n < (l.length : Int)) (h1 : 0 ≤ n) (hl : l.length ≤ maxLen) : laws_szNoticeS.f l n = some (-1) := by
  unfold maxLen at hl
  unfold laws_szNoticeS.f
  rw [wrap_in (by omega) (by omega), if_pos (by omega)]

theorem laws_szMailbox.fits (l : List S153) (n : Int) (h0 : n ≤ 1048576) (h : (l.length : Int) ≤ n) : laws_szMailbox.f l n = some (n - l.length) := by
  unfold laws_szMailbox.f
  rw [laws_szNoticeS.fits l n h0 h]
  simp only [Option.bind_some]
  rw [if_neg (by omega)]
theorem laws_szMailbox.big (l : List S153) (n : Int) (h0 : n ≤ 1048576) (h : n < (l.length : Int)) (h1 : 0 ≤ n) (hl : l.length ≤ maxLen) : laws_szMailbox.f l n = some (-1) := by
  unfold laws_szMailbox.f
  rw [laws_szNoticeS.big l n h0 h h1 hl]
  rfl

def cvNotice (x : S153) : S108 := ⟨x.f0, x.f1, x.f2, x.f3⟩

theorem laws_toNoticeS.ev (l : List S153) (hl : l.length ≤ 1048576) : Ev (fun k => laws_toNoticeS.f k l) (l.map cvNotice) := by
  unfold laws_toNoticeS.f
  refine ev_pos (by omega) (ev_pos (by omega) ?_)
  refine fill (xs := l) cvNotice (fun k s i => laws_toNoticeS.l0 k l i s) (fun s hs => ?_) (fun i h s hs r ih => ?_) (List.replicate ((l.length : Int)).toNat z108) (by simp)
  · refine Ev.step (fun k => by rw [laws_toNoticeS.l0]) ?_
    exact ev_neg (by omega) (Ev.now _)
  · refine Ev.step (fun k => by rw [laws_toNoticeS.l0]) ?_
    refine ev_pos (by omega) (ev_pos (by omega) (ev_bindc rfl (ev_pos (by omega) ?_)))
    simp only [rd_T153, Int.toNat_natCast, getD_nat h, wrap_succ (show i < 4611686018427387904 by omega)]
    exact ih

theorem laws_toMailbox.ev (l : List S153) (hl : l.length ≤ 1048576) : Ev (fun k => laws_toMailbox.f k l) (l.map cvNotice) := by
  unfold laws_toMailbox.f
  exact Ev.bind (laws_toNoticeS.ev l (by omega)) (Ev.now _)

theorem laws_eqNoticeS.ev (l : List S108) (hl : l.length < 4611686018427387904) : Ev (fun k => laws_eqNoticeS.f k l l) true := by
  unfold laws_eqNoticeS.f
  refine ev_pos rfl ?_
  refine scan0 (xs := l) (fun k (_ : Unit) i => laws_eqNoticeS.l0 k l l i) (fun _ _ => true) (fun s => ?_) (fun i h s ih => ?_) ()
  · refine Ev.step (fun k => by rw [laws_eqNoticeS.l0]) ?_
    exact ev_neg (by omega) (Ev.now _)
  · refine Ev.step (fun k => by rw [laws_eqNoticeS.l0]) ?_
    refine ev_pos (by omega) (ev_pos (by omega) (ev_pos (by omega) (ev_bindc (a := true) (by simp [laws_eqNotice.f]) (ev_pos rfl ?_))))
    rw [wrap_succ (by omega)]
    exact ih ()

theorem laws_eqMailbox.ev (l : List S108) (hl : l.length < 4611686018427387904) : Ev (fun k => laws_eqMailbox.f k l l) true := by
  unfold laws_eqMailbox.f
  refine Ev.bind (laws_eqNoticeS.ev l hl) (ev_pos rfl ?_)
  exact Ev.now _

def mkNotice (c : Int) (_ : S108) : Int × S108 := (wrap64 ((wrap64 ((wrap64 ((wrap64 (c + 1)) + 1)) + 1)) + 1), ⟨c, wrap64 (c + 1), wrap64 ((wrap64 (c + 1)) + 1), (Int.tmod (wrap64 ((wrap64 ((wrap64 (c + 1)) + 1)) + 1)) 3 == 0)⟩)
theorem mkNotice_count (c : Int) (x : S108) (h0 : 0 ≤ c) (h : c + (4 : Nat) < 4611686018427387904) : (mkNotice c x).1 = c + (4 : Nat) := by
  simp only [mkNotice]
  unfold wrap64
  omega
theorem mkNotice_list (xs : List S108) (c : Int) (h0 : 0 ≤ c) (h : c + 4 * xs.length < 4611686018427387904) : (markL mkNotice xs c).1 = c + 4 * xs.length := by
  have e : (xs.map (fun _ => 4)).sum = 4 * xs.length := by
    clear h
    induction xs with
    | nil => rfl
    | cons x xs ih => simp only [List.map_cons, List.sum_cons, ih, List.length_cons]; omega
  rw [markL_count mkNotice (fun _ => 4) (fun c x => mkNotice_count c x) xs c h0 (by rw [e]; push_cast; omega), e]
  push_cast
  rfl

theorem laws_markNoticeS.ev (l : List S108) (c : Int) (hl : l.length < 4611686018427387904) : Ev (fun k => laws_markNoticeS.f k l c) (markL mkNotice l c) := by
  unfold laws_markNoticeS.f
  have key : ∀ (d i : Nat) (s : List S108) (c : Int), s.length = l.length → i + d = l.length → Ev (fun k => laws_markNoticeS.l0 k s c (i : Int)) ((markL mkNotice (s.drop i) c).1, s.take i ++ (markL mkNotice (s.drop i) c).2) := by
    intro d
    induction d with
    | zero =>
      intro i s c hs hi
      rw [List.drop_of_length_le (by omega), List.take_of_length_le (by omega)]
      refine Ev.step (fun k => by rw [laws_markNoticeS.l0]) ?_
      refine ev_neg (by omega) ?_
      simpa [markL] using Ev.now (c, s)
    | succ d ih =>
      intro i s c hs hi
      have h : i < s.length := by omega
      have h' := ih (i + 1) (s.set i (mkNotice c s[i]).2) (mkNotice c s[i]).1 (by simp [hs]) (by omega)
      rw [List.drop_eq_getElem_cons h]
      have e1 : (s.set i (mkNotice c s[i]).2).drop (i + 1) = s.drop (i + 1) := by rw [List.drop_set_of_lt (by omega)]
      have e2 : (s.set i (mkNotice c s[i]).2).take (i + 1) = s.take i ++ [(mkNotice c s[i]).2] := by
        rw [List.take_succ_eq_append_getElem (by simpa using h), List.take_set_of_le (by omega)]
        simp
      rw [e1, e2, List.append_assoc] at h'
      refine Ev.step (fun k => by rw [laws_markNoticeS.l0]) ?_
      refine ev_pos (by omega) (ev_pos (by omega) ?_)
      simp only [Option.bind_some, rd_T108, Int.toNat_natCast, getD_set h, List.set_set, wrap_succ (show i < 4611686018427387904 by omega)]
      exact h'
  have := key l.length 0 l c rfl (by omega)
  simpa using this

theorem laws_markMailbox.ev (l : List S108) (c : Int) (hl : l.length < 4611686018427387904) : Ev (fun k => laws_markMailbox.f k l c) (markL mkNotice l c) := by
  unfold laws_markMailbox.f
  exact Ev.bind (laws_markNoticeS.ev l c hl) (Ev.now _)

theorem laws_heldNoticeS.ev (l : List S108) (c : Int) (hl : l.length < 4611686018427387904) : Ev (fun k => laws_heldNoticeS.f k (markL mkNotice l c).2 c) (markL mkNotice l c).1 := by
  unfold laws_heldNoticeS.f
  have hl' : (markL mkNotice l c).2.length < 4611686018427387904 := by rw [markL_length]; exact hl
  have key : ∀ (ys pre : List S108) (c : Int), pre.length + ys.length < 4611686018427387904 → Ev (fun k => laws_heldNoticeS.l0 k (pre ++ (markL mkNotice ys c).2) c (pre.length : Int)) (markL mkNotice ys c).1 := by
    intro ys
    induction ys with
    | nil =>
      intro pre c _
      refine Ev.step (fun k => by rw [laws_heldNoticeS.l0]) ?_
      refine ev_neg (by simp [markL]) ?_
      exact Ev.now _
    | cons y ys ih =>
      intro pre c hp
      have h' := ih (pre ++ [(mkNotice c y).2]) (mkNotice c y).1 (by simp at hp ⊢; omega)
      simp only [List.length_cons] at hp
      refine Ev.step (fun k => by rw [laws_heldNoticeS.l0]) ?_
      refine ev_pos (by simp [markL]; omega) (ev_pos (by omega) ?_)
      have e : rd_T108 (pre ++ (markL mkNotice (y :: ys) c).2) (pre.length : Int) = (mkNotice c y).2 := by simp [rd_T108, markL]
      rw [e, wrap_succ (by omega)]
      simp only [mkNotice, ne_eq, if_true, bne_self_eq_false, Bool.false_eq_true, if_false]
      simpa [markL, mkNotice] using h'
  have := key l [] c (by simpa using hl)
  simpa using this

theorem laws_heldMailbox.ev (l : List S108) (c : Int) (hl : l.length < 4611686018427387904) (h0 : 0 ≤ (markL mkNotice l c).1) : Ev (fun k => laws_heldMailbox.f k (markL mkNotice l c).2 c) (markL mkNotice l c).1 := by
  unfold laws_heldMailbox.f
  exact Ev.bind (laws_heldNoticeS.ev l c hl) (ev_neg (by omega) (Ev.now _))

def mailOk (m : List S108) (i : Nat) : Prop := 1 ≤ (rd_T108 m i).f0 ∧ (rd_T108 m i).f0 ≤ 5 ∧ 0 ≤ (rd_T108 m i).f1 ∧ (rd_T108 m i).f1 ≤ 1000000 ∧ 0 ≤ (rd_T108 m i).f2 ∧ (rd_T108 m i).f2 ≤ 1000000 ∧ (0 < i → (rd_T108 m ((i : Int) - 1)).f2 ≤ (rd_T108 m i).f2)
noncomputable def validMailV (m : List S108) : Bool := dec ((∀ i, i < m.length → mailOk m i) ∧ m.length ≤ 30)

def seenAt (l : List S108) (i : Nat) : Prop := (rd_T108 l (i : Int)).f3 = true
instance (l : List S108) (i : Nat) : Decidable (seenAt l i) := inferInstanceAs (Decidable (_ = true))
/-- The least place of what is seen, looked for from behind. -/
def downV (l : List S108) : Nat → Nat → Nat
  | 0, a => a
  | i + 1, a => if seenAt l i then downV l i i else downV l i a
theorem down_none (l : List S108) (n a : Nat) (h : ∀ j, j < n → ¬ seenAt l j) : downV l n a = a := by
  induction n with
  | zero => rfl
  | succ n ih => rw [downV, if_neg (h n (by omega)), ih (fun j hj => h j (by omega))]
theorem down_first (l : List S108) (n a i : Nat) (hi : i < n) (hs : seenAt l i) (h : ∀ j, j < i → ¬ seenAt l j) : downV l n a = i := by
  induction n generalizing a with
  | zero => omega
  | succ n ih =>
    rw [downV]
    by_cases e : i = n
    · subst e
      rw [if_pos hs, down_none l i i h]
    · split
      · exact ih n (by omega)
      · exact ih a (by omega)
theorem down_lt (l : List S108) (n a m : Nat) (ha : a < m) (hn : n ≤ m) : downV l n a < m := by
  induction n generalizing a with
  | zero => exact ha
  | succ n ih =>
    rw [downV]
    split
    · exact ih n (by omega) (by omega)
    · exact ih a ha (by omega)
def cutV (l : List S108) : List S108 := if l.length > 30 then l.take (downV l l.length 0) ++ l.drop (downV l l.length 0 + 1) else l
noncomputable def sendV (m : List S108) (a b c : Int) : List S108 × Bool := if validMailV m = true then (if validMailV (cutV (m ++ [⟨a, b, c, false⟩])) = true then (cutV (m ++ [⟨a, b, c, false⟩]), true) else (m, false)) else (m, false)
theorem cut_length (l : List S108) : (cutV l).length ≤ l.length + 1 := by
  unfold cutV
  split
  · rw [List.length_append, List.length_take, List.length_drop]; omega
  · omega
theorem send_length (m : List S108) (a b c : Int) : (sendV m a b c).1.length ≤ m.length + 2 := by
  have := cut_length (m ++ [(⟨a, b, c, false⟩ : S108)])
  rw [List.length_append] at this
  simp only [List.length_cons, List.length_nil] at this
  unfold sendV
  split
  · split
    · exact this
    · show m.length ≤ m.length + 2; omega
  · show m.length ≤ m.length + 2; omega

theorem spec_l31Copy.val (l : List S108) (hl : l.length < 4398046511104) : spec_l31Copy.f l = some l := by
  unfold spec_l31Copy.f
  simp only [Option.bind_some, List.nil_append, List.length_nil, Nat.zero_add]
  rw [if_pos hl]

theorem spec_l1In.val (a b c : Int) : spec_l1In.f a b c = some (decide (b ≤ a ∧ a ≤ c)) := by
  unfold spec_l1In.f
  by_cases h : a ≥ b
  · rw [if_pos h]; simp only [ge_iff_le] at h; simp [h]
  · rw [if_neg h]; simp only [ge_iff_le] at h; simp [h]

theorem spec_IsValidMailbox.ev (m : List S108) (hl : m.length < 4611686018427387904) : Ev (fun k => spec_IsValidMailbox.f k m) (validMailV m) := by
  unfold spec_IsValidMailbox.f validMailV
  refine scan_all (n := m.length) (fun k i => spec_IsValidMailbox.l0 k i m) (mailOk m) (m.length ≤ 30) ?_ (fun i hi q r ih => ?_) (fun i hi q => ?_)
  · refine Ev.step (fun k => by rw [spec_IsValidMailbox.l0]) ?_
    refine ev_neg (by omega) (ev_const ?_)
    rw [dec_decide, dec_eq (P := (m.length : Int) ≤ 30) (Q := m.length ≤ 30) (by omega)]
  · unfold mailOk at q
    refine Ev.step (fun k => by rw [spec_IsValidMailbox.l0]) ?_
    simp only [spec_l1In.val, Option.bind_some, decide_eq_true_eq, wrap_succ (show i < 4611686018427387904 by omega), wrap_in (x := (i : Int) - 1) (by omega) (by omega)]
    repeat' (with_reducible refine ev_both (fun _ => ?_) (fun _ => ?_))
    all_goals first | exact ih | (exfalso; omega)
  · unfold mailOk at q
    refine Ev.step (fun k => by rw [spec_IsValidMailbox.l0]) ?_
    simp only [spec_l1In.val, Option.bind_some, decide_eq_true_eq, wrap_succ (show i < 4611686018427387904 by omega), wrap_in (x := (i : Int) - 1) (by omega) (by omega)]
    repeat' (with_reducible refine ev_both (fun _ => ?_) (fun _ => ?_))
    all_goals first | exact Ev.now _ | (exfalso; omega)

theorem spec_SendNotice.j (l m : List S108) (hl : l.length ≤ 3000000) (hm : m.length ≤ 3000000) : Ev (fun k => spec_SendNotice.j1 k l m) (if validMailV m = true then (if validMailV l = true then (l, true) else (m, false)) else (m, false)) := by
  refine Ev.step (fun k => by rw [spec_SendNotice.j1]) ?_
  refine Ev.bind (spec_IsValidMailbox.ev m (by omega)) (ev_ite (fun _ => ?_) (fun _ => ev_bindc (spec_l31Copy.val m (by omega)) (Ev.now _)))
  exact Ev.bind (spec_IsValidMailbox.ev l (by omega)) (ev_ite (fun _ => Ev.now _) (fun _ => ev_bindc (spec_l31Copy.val m (by omega)) (Ev.now _)))
theorem spec_SendNotice.down (l m : List S108) (hl : l.length ≤ 2000000) (hm : m.length ≤ 2000000) (r : List S108 × Bool) : ∀ (d a : Nat), d ≤ l.length → a < l.length → Ev (fun k => spec_SendNotice.j1 k (l.take (downV l d a) ++ l.drop (downV l d a + 1)) m) r → Ev (fun k => spec_SendNotice.l0 k l (a : Int) ((d : Int) - 1) m) r := by
  intro d
  induction d with
  | zero =>
    intro a hd ha h
    refine Ev.step (fun k => by rw [spec_SendNotice.l0]) ?_
    rw [wrap_succ (i := a) (by omega), Int.toNat_natCast, Int.toNat_natCast]
    have e1 : (l.take a).length ≤ l.length := by simp; omega
    have e2 : (l.drop (a + 1)).length ≤ l.length := by simp
    refine ev_neg (by omega) (ev_bindc rfl (ev_pos (by omega) (ev_pos (by omega) (ev_bindc rfl (ev_pos (by simp only [List.length_nil]; omega) (ev_bindc rfl (ev_pos (by omega) (ev_pos (by omega) (ev_bindc rfl (ev_pos (by simp only [List.nil_append]; omega) ?_))))))))))
    simpa [downV] using h
  | succ d ih =>
    intro a hd ha h
    have e : ((d + 1 : Nat) : Int) - 1 = (d : Int) := by omega
    rw [e]
    rw [downV] at h
    refine Ev.step (fun k => by rw [spec_SendNotice.l0]) ?_
    rw [wrap_in (x := (d : Int) - 1) (by omega) (by omega)]
    refine ev_pos (by omega) (ev_pos (by omega) (ev_pos (by omega) (ev_both (fun hs => ?_) (fun hs => ?_))))
    · rw [if_pos (show seenAt l d from hs)] at h
      exact ih d (by omega) (by omega) h
    · rw [if_neg (show ¬ seenAt l d from hs)] at h
      exact ih a (by omega) ha h
theorem spec_SendNotice.ev (m : List S108) (a b c : Int) (hm : m.length ≤ 1900000) : Ev (fun k => spec_SendNotice.f k m a b c) (sendV m a b c) := by
  unfold spec_SendNotice.f
  refine ev_bindc rfl (ev_pos (by simp only [List.length_nil]; omega) (ev_bindc rfl (ev_pos (by simp only [List.nil_append]; omega) (ev_bindc rfl ?_))))
  simp only [List.nil_append]
  unfold sendV
  have hc := cut_length (m ++ [(⟨a, b, c, false⟩ : S108)])
  have hl : (m ++ [(⟨a, b, c, false⟩ : S108)]).length = m.length + 1 := by simp
  have J := spec_SendNotice.j (cutV (m ++ [(⟨a, b, c, false⟩ : S108)])) m (by omega) (by omega)
  generalize m ++ [(⟨a, b, c, false⟩ : S108)] = l at hl hc J
  generalize (if validMailV m = true then (if validMailV (cutV l) = true then (cutV l, true) else (m, false)) else (m, false)) = r at J
  unfold cutV at J
  refine ev_both (fun h => ?_) (fun h => ?_)
  · rw [if_pos (by omega)] at J
    rw [wrap_in (x := (l.length : Int) - 1) (by omega) (by omega)]
    exact spec_SendNotice.down l m (by omega) (by omega) r l.length 0 (by omega) (by omega) J
  · rw [if_neg (by omega)] at J
    exact J

theorem impl_copyMail.val (l : List S108) (hl : l.length < 4398046511104) : impl_copyMail.f l = some l := by
  unfold impl_copyMail.f
  simp only [Option.bind_some, List.nil_append, List.length_nil, Nat.zero_add]
  rw [if_pos hl]

theorem impl_InRange.val (a b c : Int) : impl_InRange.f a b c = some (decide (b ≤ a ∧ a ≤ c)) := by
  unfold impl_InRange.f
  by_cases h : b ≤ a
  · rw [if_pos h]; simp [h]
  · rw [if_neg h]; simp [h]

theorem impl_IsValidMailbox.ev (m : List S108) (hl : m.length < 4611686018427387904) : Ev (fun k => impl_IsValidMailbox.f k m) (validMailV m) := by
  unfold impl_IsValidMailbox.f validMailV
  refine ev_both (fun e => ?_) (fun e => ?_)
  · rw [dec_false (by omega)]
    exact Ev.now _
  refine scan_all (n := m.length) (fun k i => impl_IsValidMailbox.l0 k m m.length i m) (mailOk m) (m.length ≤ 30) ?_ (fun i hi q r ih => ?_) (fun i hi q => ?_)
  · refine Ev.step (fun k => by rw [impl_IsValidMailbox.l0]) ?_
    refine ev_neg (by omega) ?_
    rw [dec_true (by omega)]
    exact Ev.now _
  · unfold mailOk at q
    refine Ev.step (fun k => by rw [impl_IsValidMailbox.l0]) ?_
    simp only [impl_InRange.val, Option.bind_some, decide_eq_true_eq, wrap_succ (show i < 4611686018427387904 by omega), wrap_in (x := (i : Int) - 1) (by omega) (by omega)]
    repeat' (with_reducible refine ev_both (fun _ => ?_) (fun _ => ?_))
    all_goals first | exact ih | (exfalso; omega)
  · unfold mailOk at q
    refine Ev.step (fun k => by rw [impl_IsValidMailbox.l0]) ?_
    simp only [impl_InRange.val, Option.bind_some, decide_eq_true_eq, wrap_succ (show i < 4611686018427387904 by omega), wrap_in (x := (i : Int) - 1) (by omega) (by omega)]
    repeat' (with_reducible refine ev_both (fun _ => ?_) (fun _ => ?_))
    all_goals first | exact Ev.now _ | (exfalso; omega)

theorem impl_SendNotice.j (l m : List S108) (hl : l.length ≤ 3000000) (hm : m.length ≤ 3000000) : Ev (fun k => impl_SendNotice.j1 k m l) (if validMailV l = true then (l, true) else (m, false)) := by
  refine Ev.step (fun k => by rw [impl_SendNotice.j1]) ?_
  exact Ev.bind (impl_IsValidMailbox.ev l (by omega)) (ev_ite (fun _ => Ev.now _) (fun _ => ev_bindc (impl_copyMail.val m (by omega)) (Ev.now _)))
theorem impl_SendNotice.up (l m : List S108) (hl : l.length ≤ 2000000) (h0 : 0 < l.length) (hm : m.length ≤ 2000000) (r : List S108 × Bool) (h : Ev (fun k => impl_SendNotice.j1 k m (l.take (downV l l.length 0) ++ l.drop (downV l l.length 0 + 1))) r) : ∀ (d i : Nat), i + d = l.length → (∀ j, j < i → ¬ seenAt l j) → Ev (fun k => impl_SendNotice.l0 k 0 (l.length : Int) (i : Int) m l) r := by
  intro d
  induction d with
  | zero =>
    intro i hi hn
    rw [down_none l l.length 0 (fun j hj => hn j (by omega))] at h
    refine Ev.step (fun k => by rw [impl_SendNotice.l0]) ?_
    have w : wrap64 (0 + 1) = ((1 : Nat) : Int) := by unfold wrap64; omega
    rw [w]
    have e1 : (l.take 0).length ≤ l.length := by simp
    have e2 : (l.drop 1).length ≤ l.length := by simp
    refine ev_neg (by omega) (ev_bindc rfl (ev_pos (by omega) (ev_pos (by omega) (ev_bindc rfl (ev_pos (by show ([] : List S108).length + (l.take 0).length < 4398046511104; simp) (ev_bindc rfl (ev_pos (by omega) (ev_pos (by omega) (ev_bindc rfl (ev_pos (by show (([] : List S108) ++ l.take 0).length + (l.drop 1).length < 4398046511104; simp only [List.nil_append]; omega) ?_))))))))))
    simpa using h
  | succ d ih =>
    intro i hi hn
    refine Ev.step (fun k => by rw [impl_SendNotice.l0]) ?_
    rw [wrap_succ (i := i) (by omega), Int.toNat_natCast, Int.toNat_natCast]
    refine ev_pos (by omega) (ev_pos (by omega) (ev_pos (by omega) (ev_both (fun hs => ?_) (fun hs => ?_))))
    · rw [down_first l l.length 0 i (by omega) hs hn] at h
      have e1 : (l.take i).length ≤ l.length := by simp; omega
      have e2 : (l.drop (i + 1)).length ≤ l.length := by simp
      refine ev_bindc rfl (ev_pos (by omega) (ev_bindc rfl (ev_pos (by simp only [List.length_nil]; omega) (ev_bindc rfl (ev_pos (by omega) (ev_pos (by omega) (ev_bindc rfl (ev_pos (by simp only [List.nil_append]; omega) ?_))))))))
      simpa using h
    · refine ih (i + 1) (by omega) (fun j hj => ?_)
      by_cases e : j = i
      · subst e; exact hs
      · exact hn j (by omega)
theorem impl_SendNotice.ev (m : List S108) (a b c : Int) (hm : m.length ≤ 1900000) : Ev (fun k => impl_SendNotice.f k m a b c) (sendV m a b c) := by
  unfold impl_SendNotice.f sendV
  refine Ev.bind (impl_IsValidMailbox.ev m (by omega)) (ev_ite (fun _ => ?_) (fun _ => ev_bindc (impl_copyMail.val m (by omega)) (Ev.now _)))
  refine ev_bindc (impl_copyMail.val m (by omega)) (ev_pos (by omega) (ev_bindc rfl ?_))
  have hc := cut_length (m ++ [(⟨a, b, c, false⟩ : S108)])
  have hl : (m ++ [(⟨a, b, c, false⟩ : S108)]).length = m.length + 1 := by simp
  have J := impl_SendNotice.j (cutV (m ++ [(⟨a, b, c, false⟩ : S108)])) m (by omega) (by omega)
  generalize m ++ [(⟨a, b, c, false⟩ : S108)] = l at hl hc J
  generalize (if validMailV (cutV l) = true then (cutV l, true) else (m, false)) = r at J
  unfold cutV at J
  refine ev_both (fun h => ?_) (fun h => ?_)
  · rw [if_pos (by omega)] at J
    exact impl_SendNotice.up l m (by omega) (by omega) (by omega) r J l.length 0 (by omega) (fun j hj => by omega)
  · rw [if_neg (by omega)] at J
    exact J

theorem FnExactSendNotice : Claim := by
  intro l a b c ⟨hl, _⟩ _ _ _
  refine Ev.rounds (r := true) ?_
  unfold laws_FnExactSendNotice.f
  by_cases hs : (l.length : Int) ≤ 1048576
  · refine ev_bindc (laws_szMailbox.fits l _ (by omega) hs) (ev_neg (by omega) ?_)
    have hm : (l.map cvNotice).length ≤ 1048576 := by rw [List.length_map]; omega
    generalize hL : l.map cvNotice = L at hm
    have toM : Ev (fun k => laws_toMailbox.f k l) L := ev_eq (laws_toMailbox.ev l (by omega)) hL
    have es := spec_SendNotice.ev L a b c (by omega)
    have ei := impl_SendNotice.ev L a b c (by omega)
    have hv := send_length L a b c
    generalize sendV L a b c = v at hv es ei
    have hc := mkNotice_list L 1 (by omega) (by omega)
    have hcA := mkNotice_list v.1 1 (by omega) (by omega)
    refine Ev.bind toM (Ev.bind es (Ev.bind toM (Ev.bind ei ?_)))
    refine Ev.bind (laws_eqMailbox.ev v.1 (by omega)) (ev_pos rfl (ev_neg (by simp) ?_))
    refine Ev.bind toM (Ev.bind (laws_eqMailbox.ev L (by omega)) (ev_pos rfl ?_))
    refine Ev.bind (laws_markMailbox.ev L 1 (by omega)) (ev_neg (by rw [hc]; omega) ?_)
    refine Ev.bind (laws_eqMailbox.ev v.1 (by omega)) (ev_pos rfl ?_)
    refine Ev.bind (laws_markMailbox.ev v.1 1 (by omega)) (Ev.bind (laws_heldMailbox.ev v.1 1 (by omega) (by omega)) (ev_neg (by rw [hcA]; omega) (ev_pos rfl ?_)))
    refine Ev.bind toM (Ev.bind ei ?_)
    refine Ev.bind (laws_eqMailbox.ev v.1 (by omega)) (ev_pos rfl (ev_neg (by simp) ?_))
    exact Ev.bind (laws_heldMailbox.ev v.1 1 (by omega) (by omega)) (ev_neg (by rw [hcA]; omega) (ev_pos rfl (Ev.now _)))
  · exact ev_bindc (laws_szMailbox.big l _ (by omega) (by omega) (by omega) hl) (ev_pos (by omega) (Ev.now _))

end Go.Proofs.Ytanoaneoanpkkaa.Pure
