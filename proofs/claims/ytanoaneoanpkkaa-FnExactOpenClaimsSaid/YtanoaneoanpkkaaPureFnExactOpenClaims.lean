/- The program's OpenClaims returns what the reference's returns, for all arguments that the row lets in; no condition besides. Here: the plain side, over the printed functions. -/
import Derived.Test.YtanoaneoanpkkaaZFnExactOpenClaimsx3
import Derived.Test.YtanoaneoanpkkaaKitV
namespace Go.Proofs.Ytanoaneoanpkkaa.Pure
open Go.RowKit Go.Proofs.Ytanoaneoanpkkaa.ZFnExactOpenClaims Go.Proofs.YtanoaneoanpkkaaW.PrintWords Go.Proofs.YtanoaneoanpkkaaW.PrintLast Go.Proofs.YtanoaneoanpkkaaW.PrintMore Go.Proofs.Ytanoaneoanpkkaa.Kit
set_option linter.unusedVariables false
set_option linter.unusedSimpArgs false

/-- What is known of a Claim that came in. -/
def W155 (x : S155) : Prop := ((Lit.int .i64 x.f0).wf = true) ∧ ((Lit.int .i64 x.f1).wf = true) ∧ ((Lit.int .i64 x.f2).wf = true) ∧ ((Lit.int .i64 x.f3).wf = true) ∧ ((Lit.int .i64 x.f4).wf = true) ∧ ((Lit.int .i64 x.f5).wf = true)
/-- What is to be proved of the printed functions. -/
def Claim : Prop := ∀ (a0_0 : Int), ∀ (l0_1 : List (S155)), ∀ (a1 : Int), ((Lit.int .i64 a0_0).wf = true) → (l0_1.length ≤ maxLen ∧ ∀ y_ ∈ l0_1, W155 y_) → ((Lit.int .i64 a1).wf = true) → ∃ k, laws_FnExactOpenClaims.f k a0_0 l0_1 a1 = some true

theorem laws_szClaimS.fits (l : List S155) (n : Int) (h0 : n ≤ 1048576) (h : (l.length : Int) ≤ n) : laws_szClaimS.f l n = some (n - l.length) := by
  unfold laws_szClaimS.f
  rw [wrap_in (by omega) (by omega), if_neg (by omega)]
theorem laws_szClaimS.big (l : List S155) (n : Int) (h0 : n ≤ 1048576) (h : n < (l.length : Int)) (h1 : 0 ≤ n) (hl : l.length ≤ maxLen) : laws_szClaimS.f l n = some (-1) := by
  unfold maxLen at hl
  unfold laws_szClaimS.f
  rw [wrap_in (by omega) (by omega), if_pos (by omega)]

theorem laws_szClaimList.fits (a0 : Int) (l : List S155) (n : Int) (h0 : n ≤ 1048576) (h : (l.length : Int) ≤ n) : laws_szClaimList.f a0 l n = some (n - l.length) := by
  unfold laws_szClaimList.f
  rw [laws_szClaimS.fits l n h0 h]
  simp only [Option.bind_some]
  rw [if_neg (by omega)]
theorem laws_szClaimList.big (a0 : Int) (l : List S155) (n : Int) (h0 : n ≤ 1048576) (h : n < (l.length : Int)) (h1 : 0 ≤ n) (hl : l.length ≤ maxLen) : laws_szClaimList.f a0 l n = some (-1) := by
  unfold laws_szClaimList.f
  rw [laws_szClaimS.big l n h0 h h1 hl]
  rfl

def cvClaim (x : S155) : S134 := ⟨x.f0, x.f1, x.f2, x.f3, x.f4, x.f5⟩

theorem laws_toClaimS.ev (l : List S155) (hl : l.length ≤ 1048576) : Ev (fun k => laws_toClaimS.f k l) (l.map cvClaim) := by
  unfold laws_toClaimS.f
  refine ev_pos (by omega) (ev_pos (by omega) ?_)
  refine fill (xs := l) cvClaim (fun k s i => laws_toClaimS.l0 k l s i) (fun s hs => ?_) (fun i h s hs r ih => ?_) (List.replicate ((l.length : Int)).toNat z134) (by simp)
  · refine Ev.step (fun k => by rw [laws_toClaimS.l0]) ?_
    exact ev_neg (by omega) (Ev.now _)
  · refine Ev.step (fun k => by rw [laws_toClaimS.l0]) ?_
    refine ev_pos (by omega) (ev_pos (by omega) (ev_bindc rfl (ev_pos (by omega) ?_)))
    simp only [rd_T155, Int.toNat_natCast, getD_nat h, wrap_succ (show i < 4611686018427387904 by omega)]
    exact ih

theorem laws_toClaimList.ev (a0 : Int) (l : List S155) (hl : l.length ≤ 1048576) : Ev (fun k => laws_toClaimList.f k a0 l) (a0, l.map cvClaim) := by
  unfold laws_toClaimList.f
  exact Ev.bind (laws_toClaimS.ev l (by omega)) (Ev.now _)

theorem laws_eqClaimS.ev (l : List S134) (hl : l.length < 4611686018427387904) : Ev (fun k => laws_eqClaimS.f k l l) true := by
  unfold laws_eqClaimS.f
  refine ev_pos rfl ?_
  refine scan0 (xs := l) (fun k (_ : Unit) i => laws_eqClaimS.l0 k l l i) (fun _ _ => true) (fun s => ?_) (fun i h s ih => ?_) ()
  · refine Ev.step (fun k => by rw [laws_eqClaimS.l0]) ?_
    exact ev_neg (by omega) (Ev.now _)
  · refine Ev.step (fun k => by rw [laws_eqClaimS.l0]) ?_
    refine ev_pos (by omega) (ev_pos (by omega) (ev_pos (by omega) (ev_bindc (a := true) (by simp [laws_eqClaim.f]) (ev_pos rfl ?_))))
    rw [wrap_succ (by omega)]
    exact ih ()

theorem laws_eqClaimList.ev (a0 : Int) (l : List S134) (hl : l.length < 4611686018427387904) : Ev (fun k => laws_eqClaimList.f k a0 l a0 l) true := by
  unfold laws_eqClaimList.f
  refine ev_pos rfl ?_
  refine Ev.bind (laws_eqClaimS.ev l hl) (ev_pos rfl ?_)
  exact Ev.now _

def mkClaim (c : Int) (_ : S134) : Int × S134 := (wrap64 ((wrap64 ((wrap64 ((wrap64 ((wrap64 ((wrap64 (c + 1)) + 1)) + 1)) + 1)) + 1)) + 1), ⟨c, wrap64 (c + 1), wrap64 ((wrap64 (c + 1)) + 1), wrap64 ((wrap64 ((wrap64 (c + 1)) + 1)) + 1), wrap64 ((wrap64 ((wrap64 ((wrap64 (c + 1)) + 1)) + 1)) + 1), wrap64 ((wrap64 ((wrap64 ((wrap64 ((wrap64 (c + 1)) + 1)) + 1)) + 1)) + 1)⟩)
theorem mkClaim_count (c : Int) (x : S134) (h0 : 0 ≤ c) (h : c + (6 : Nat) < 4611686018427387904) : (mkClaim c x).1 = c + (6 : Nat) := by
  simp only [mkClaim]
  unfold wrap64
  omega
theorem mkClaim_list (xs : List S134) (c : Int) (h0 : 0 ≤ c) (h : c + 6 * xs.length < 4611686018427387904) : (markL mkClaim xs c).1 = c + 6 * xs.length := by
  have e : (xs.map (fun _ => 6)).sum = 6 * xs.length := by
    clear h
    induction xs with
    | nil => rfl
    | cons x xs ih => simp only [List.map_cons, List.sum_cons, ih, List.length_cons]; omega
  rw [markL_count mkClaim (fun _ => 6) (fun c x => mkClaim_count c x) xs c h0 (by rw [e]; push_cast; omega), e]
  push_cast
  rfl

theorem laws_markClaimS.ev (l : List S134) (c : Int) (hl : l.length < 4611686018427387904) : Ev (fun k => laws_markClaimS.f k l c) (markL mkClaim l c) := by
  unfold laws_markClaimS.f
  have key : ∀ (d i : Nat) (s : List S134) (c : Int), s.length = l.length → i + d = l.length → Ev (fun k => laws_markClaimS.l0 k s c (i : Int)) ((markL mkClaim (s.drop i) c).1, s.take i ++ (markL mkClaim (s.drop i) c).2) := by
    intro d
    induction d with
    | zero =>
      intro i s c hs hi
      rw [List.drop_of_length_le (by omega), List.take_of_length_le (by omega)]
      refine Ev.step (fun k => by rw [laws_markClaimS.l0]) ?_
      refine ev_neg (by omega) ?_
      simpa [markL] using Ev.now (c, s)
    | succ d ih =>
      intro i s c hs hi
      have h : i < s.length := by omega
      have h' := ih (i + 1) (s.set i (mkClaim c s[i]).2) (mkClaim c s[i]).1 (by simp [hs]) (by omega)
      rw [List.drop_eq_getElem_cons h]
      have e1 : (s.set i (mkClaim c s[i]).2).drop (i + 1) = s.drop (i + 1) := by rw [List.drop_set_of_lt (by omega)]
      have e2 : (s.set i (mkClaim c s[i]).2).take (i + 1) = s.take i ++ [(mkClaim c s[i]).2] := by
        rw [List.take_succ_eq_append_getElem (by simpa using h), List.take_set_of_le (by omega)]
        simp
      rw [e1, e2, List.append_assoc] at h'
      refine Ev.step (fun k => by rw [laws_markClaimS.l0]) ?_
      refine ev_pos (by omega) (ev_pos (by omega) ?_)
      simp only [Option.bind_some, rd_T134, Int.toNat_natCast, getD_set h, List.set_set, wrap_succ (show i < 4611686018427387904 by omega)]
      exact h'
  have := key l.length 0 l c rfl (by omega)
  simpa using this

theorem laws_markClaimList.ev (a0 : Int) (l : List S134) (c : Int) (hl : l.length < 4611686018427387904) : Ev (fun k => laws_markClaimList.f k a0 l c) (markL mkClaim l c) := by
  unfold laws_markClaimList.f
  exact Ev.bind (laws_markClaimS.ev l c hl) (Ev.now _)

theorem laws_eqIntS.ev (l : List Int) (hl : l.length < 4611686018427387904) : Ev (fun k => laws_eqIntS.f k l l) true := by
  unfold laws_eqIntS.f
  refine ev_pos rfl ?_
  refine scan0 (xs := l) (fun k (_ : Unit) i => laws_eqIntS.l0 k l l i) (fun _ _ => true) (fun s => ?_) (fun i h s ih => ?_) ()
  · refine Ev.step (fun k => by rw [laws_eqIntS.l0]) ?_
    exact ev_neg (by omega) (Ev.now _)
  · refine Ev.step (fun k => by rw [laws_eqIntS.l0]) ?_
    refine ev_pos (by omega) (ev_pos (by omega) (ev_pos (by omega) (ev_pos rfl ?_)))
    rw [wrap_succ (by omega)]
    exact ih ()

def mkInt (c : Int) (_ : Int) : Int × Int := (wrap64 (c + 1), c)
theorem mkInt_list (xs : List Int) (c : Int) (h0 : 0 ≤ c) (h : c + xs.length < 4611686018427387904) : (markL mkInt xs c).1 = c + xs.length := by
  have e : (xs.map (fun _ => 1)).sum = xs.length := by
    clear h
    induction xs with
    | nil => rfl
    | cons x xs ih => simp only [List.map_cons, List.sum_cons, ih, List.length_cons]; omega
  rw [markL_count mkInt (fun _ => 1) (fun c x h0 h => by simp only [mkInt]; unfold wrap64; omega) xs c h0 (by rw [e]; omega), e]

theorem laws_markIntS.ev (l : List Int) (c : Int) (hl : l.length < 4611686018427387904) : Ev (fun k => laws_markIntS.f k l c) (markL mkInt l c) := by
  unfold laws_markIntS.f
  have key : ∀ (d i : Nat) (s : List Int) (c : Int), s.length = l.length → i + d = l.length → Ev (fun k => laws_markIntS.l0 k s c (i : Int)) ((markL mkInt (s.drop i) c).1, s.take i ++ (markL mkInt (s.drop i) c).2) := by
    intro d
    induction d with
    | zero =>
      intro i s c hs hi
      rw [List.drop_of_length_le (by omega), List.take_of_length_le (by omega)]
      refine Ev.step (fun k => by rw [laws_markIntS.l0]) ?_
      refine ev_neg (by omega) ?_
      simpa [markL] using Ev.now (c, s)
    | succ d ih =>
      intro i s c hs hi
      have h : i < s.length := by omega
      have h' := ih (i + 1) (s.set i (mkInt c s[i]).2) (mkInt c s[i]).1 (by simp [hs]) (by omega)
      rw [List.drop_eq_getElem_cons h]
      have e1 : (s.set i (mkInt c s[i]).2).drop (i + 1) = s.drop (i + 1) := by rw [List.drop_set_of_lt (by omega)]
      have e2 : (s.set i (mkInt c s[i]).2).take (i + 1) = s.take i ++ [(mkInt c s[i]).2] := by
        rw [List.take_succ_eq_append_getElem (by simpa using h), List.take_set_of_le (by omega)]
        simp
      rw [e1, e2, List.append_assoc] at h'
      refine Ev.step (fun k => by rw [laws_markIntS.l0]) ?_
      refine ev_pos (by omega) (ev_pos (by omega) ?_)
      rw [Int.toNat_natCast, wrap_succ (show i < 4611686018427387904 by omega)]
      exact h'
  have := key l.length 0 l c rfl (by omega)
  simpa using this

theorem laws_heldIntS.ev (l : List Int) (c : Int) (hl : l.length < 4611686018427387904) : Ev (fun k => laws_heldIntS.f k (markL mkInt l c).2 c) (markL mkInt l c).1 := by
  unfold laws_heldIntS.f
  have key : ∀ (ys pre : List Int) (c : Int), pre.length + ys.length < 4611686018427387904 → Ev (fun k => laws_heldIntS.l0 k (pre ++ (markL mkInt ys c).2) c (pre.length : Int)) (markL mkInt ys c).1 := by
    intro ys
    induction ys with
    | nil =>
      intro pre c _
      refine Ev.step (fun k => by rw [laws_heldIntS.l0]) ?_
      refine ev_neg (by simp [markL]) ?_
      exact Ev.now _
    | cons y ys ih =>
      intro pre c hp
      have h' := ih (pre ++ [(mkInt c y).2]) (mkInt c y).1 (by simp at hp ⊢; omega)
      simp only [List.length_cons] at hp
      refine Ev.step (fun k => by rw [laws_heldIntS.l0]) ?_
      refine ev_pos (by simp [markL]; omega) (ev_pos (by omega) ?_)
      have e : rd (pre ++ (markL mkInt (y :: ys) c).2) (pre.length : Int) = (mkInt c y).2 := by simp [rd, markL]
      rw [e, wrap_succ (by omega)]
      simp only [mkInt, if_true]
      simpa [markL, mkInt] using h'
  have := key l [] c (by simpa using hl)
  simpa using this

def openV (l : List S134) (a : Int) : List Int := (l.filter (fun x => decide (x.f1 = a) && decide (x.f5 = 1))).map (fun x => x.f0)
theorem openV_cons (x : S134) (l : List S134) (a : Int) : openV (x :: l) a = if x.f1 = a ∧ x.f5 = 1 then x.f0 :: openV l a else openV l a := by
  unfold openV
  by_cases h : x.f1 = a ∧ x.f5 = 1
  · simp [h]
  · rw [if_neg h, List.filter_cons_of_neg (by simpa using h)]
theorem openV_length (l : List S134) (a : Int) : (openV l a).length ≤ l.length := by
  unfold openV
  rw [List.length_map]
  exact List.length_filter_le _ _

theorem spec_OpenClaims.ev (n : Int) (l : List S134) (a : Int) (hl : l.length < 17592186044000) : Ev (fun k => spec_OpenClaims.f k n l a) (openV l a) := by
  unfold spec_OpenClaims.f
  have key : ∀ (d i : Nat), i + d = l.length → ∀ s : List Int, s.length ≤ i → Ev (fun k => spec_OpenClaims.l0 k a s (i : Int) n l) (s ++ openV (l.drop i) a) := by
    intro d
    induction d with
    | zero =>
      intro i hi s hs
      rw [List.drop_of_length_le (by omega)]
      refine Ev.step (fun k => by rw [spec_OpenClaims.l0]) ?_
      refine ev_neg (by omega) ?_
      simpa [openV] using Ev.now s
    | succ d ih =>
      intro i hi s hs
      have h : i < l.length := by omega
      rw [List.drop_eq_getElem_cons h, openV_cons]
      refine Ev.step (fun k => by rw [spec_OpenClaims.l0]) ?_
      refine ev_pos (by omega) (ev_pos (by omega) ?_)
      rw [rd_T134, getD_get h, wrap_succ (by omega)]
      by_cases h1 : l[i].f1 = a
      · by_cases h2 : l[i].f5 = 1
        · refine ev_pos h1 (ev_pos h2 (ev_pos (by omega) ?_))
          rw [if_pos ⟨h1, h2⟩]
          have := ih (i + 1) (by omega) (s ++ [l[i].f0]) (by simp; omega)
          simpa using this
        · refine ev_pos h1 (ev_neg h2 ?_)
          rw [if_neg (fun h => h2 h.2)]
          exact ih (i + 1) (by omega) s (by omega)
      · refine ev_neg h1 ?_
        rw [if_neg (fun h => h1 h.1)]
        exact ih (i + 1) (by omega) s (by omega)
  simpa using key l.length 0 (by omega) [] (by simp)

theorem impl_OpenClaims.ev (n : Int) (l : List S134) (a : Int) (hl : l.length < 17592186044000) : Ev (fun k => impl_OpenClaims.f k n l a) (openV l a) := by
  unfold impl_OpenClaims.f
  have key : ∀ (d i : Nat), i + d = l.length → ∀ s : List Int, s.length ≤ i → Ev (fun k => impl_OpenClaims.l0 k a s l l.length (i : Int)) (s ++ openV (l.drop i) a) := by
    intro d
    induction d with
    | zero =>
      intro i hi s hs
      rw [List.drop_of_length_le (by omega)]
      refine Ev.step (fun k => by rw [impl_OpenClaims.l0]) ?_
      refine ev_neg (by omega) ?_
      simpa [openV] using Ev.now s
    | succ d ih =>
      intro i hi s hs
      have h : i < l.length := by omega
      rw [List.drop_eq_getElem_cons h, openV_cons]
      refine Ev.step (fun k => by rw [impl_OpenClaims.l0]) ?_
      refine ev_pos (by omega) (ev_pos (by omega) (ev_pos (by omega) ?_))
      rw [rd_T134, getD_get h, wrap_succ (by omega)]
      by_cases h2 : l[i].f5 = 1
      · by_cases h1 : l[i].f1 = a
        · refine ev_pos h2 (ev_pos h1 (ev_pos (by omega) ?_))
          rw [if_pos ⟨h1, h2⟩]
          have := ih (i + 1) (by omega) (s ++ [l[i].f0]) (by simp; omega)
          simpa using this
        · refine ev_pos h2 (ev_neg h1 ?_)
          rw [if_neg (fun h => h1 h.1)]
          exact ih (i + 1) (by omega) s (by omega)
      · refine ev_neg h2 ?_
        rw [if_neg (fun h => h2 h.2)]
        exact ih (i + 1) (by omega) s (by omega)
  simpa using key l.length 0 (by omega) [] (by simp)

theorem FnExactOpenClaims : Claim := by
  intro n l a _ ⟨hl, _⟩ _
  refine Ev.rounds (r := true) ?_
  unfold laws_FnExactOpenClaims.f
  by_cases h : (l.length : Int) ≤ 1048576
  · refine ev_bindc (laws_szClaimList.fits n l _ (by omega) h) (ev_neg (by omega) ?_)
    have hm : (l.map cvClaim).length ≤ 1048576 := by rw [List.length_map]; omega
    have hk := openV_length (l.map cvClaim) a
    have hc := mkClaim_list (l.map cvClaim) 1 (by omega) (by omega)
    have hc2 := mkInt_list (openV (l.map cvClaim) a) 1 (by omega) (by omega)
    refine Ev.bind (laws_toClaimList.ev n l (by omega)) (Ev.bind (spec_OpenClaims.ev n (l.map cvClaim) a (by omega)) ?_)
    refine Ev.bind (laws_toClaimList.ev n l (by omega)) (Ev.bind (impl_OpenClaims.ev n (l.map cvClaim) a (by omega)) ?_)
    refine Ev.bind (laws_eqIntS.ev (openV (l.map cvClaim) a) (by omega)) (ev_pos rfl ?_)
    refine Ev.bind (laws_toClaimList.ev n l (by omega)) (Ev.bind (laws_eqClaimList.ev n (l.map cvClaim) (by omega)) (ev_pos rfl ?_))
    refine Ev.bind (laws_markClaimList.ev n (l.map cvClaim) 1 (by omega)) (ev_neg (by rw [hc]; omega) ?_)
    refine Ev.bind (laws_eqIntS.ev (openV (l.map cvClaim) a) (by omega)) (ev_pos rfl ?_)
    refine (Ev.bind (laws_markIntS.ev (openV (l.map cvClaim) a) 1 (by omega)) (Ev.bind (laws_heldIntS.ev (openV (l.map cvClaim) a) 1 (by omega)) ?_))
    refine ev_neg (by rw [hc2]; omega) (ev_pos rfl ?_)
    refine Ev.bind (laws_toClaimList.ev n l (by omega)) (Ev.bind (impl_OpenClaims.ev n (l.map cvClaim) a (by omega)) ?_)
    refine Ev.bind (laws_eqIntS.ev (openV (l.map cvClaim) a) (by omega)) (ev_pos rfl (Ev.bind (laws_heldIntS.ev (openV (l.map cvClaim) a) 1 (by omega)) ?_))
    exact ev_neg (by rw [hc2]; omega) (ev_pos rfl (Ev.now _))
  · exact ev_bindc (laws_szClaimList.big n l _ (by omega) (by omega) (by omega) hl) (ev_pos (by omega) (Ev.now _))

end Go.Proofs.Ytanoaneoanpkkaa.Pure
