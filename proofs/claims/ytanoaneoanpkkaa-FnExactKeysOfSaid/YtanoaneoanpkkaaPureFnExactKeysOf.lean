/- The program's KeysOf returns what the reference's returns, for all arguments that the row lets in; no condition besides. Here: the plain side, over the printed functions. -/
import Derived.Test.YtanoaneoanpkkaaZFnExactKeysOfx3
import Derived.Test.YtanoaneoanpkkaaKitV
namespace Go.Proofs.Ytanoaneoanpkkaa.Pure
open Go.RowKit Go.Proofs.Ytanoaneoanpkkaa.ZFnExactKeysOf Go.Proofs.YtanoaneoanpkkaaW.PrintWords Go.Proofs.YtanoaneoanpkkaaW.PrintLast Go.Proofs.YtanoaneoanpkkaaW.PrintMore Go.Proofs.Ytanoaneoanpkkaa.Kit
set_option linter.unusedVariables false
set_option linter.unusedSimpArgs false

/-- What is known of a Credential that came in. -/
def W150 (x : S150) : Prop := ((Lit.int .i64 x.f0).wf = true) ∧ ((Lit.int .i64 x.f1).wf = true) ∧ ((Lit.int .i64 x.f2).wf = true) ∧ (True)
/-- What is to be proved of the printed functions. -/
def Claim : Prop := ∀ (a0_0 : Int), ∀ (a0_1 : Int), ∀ (l0_2 : List (S150)), ((Lit.int .i64 a0_0).wf = true) → ((Lit.int .i64 a0_1).wf = true) → (l0_2.length ≤ maxLen ∧ ∀ y_ ∈ l0_2, W150 y_) → ∃ k, laws_FnExactKeysOf.f k a0_0 a0_1 l0_2 = some true

theorem laws_szCredentialS.fits (l : List S150) (n : Int) (h0 : n ≤ 1048576) (h : (l.length : Int) ≤ n) : laws_szCredentialS.f l n = some (n - l.length) := by
  unfold laws_szCredentialS.f
  rw [wrap_in (by omega) (by omega), if_neg (by omega)]
theorem laws_szCredentialS.big (l : List S150) (n : Int) (h0 : n ≤ 1048576) (h : n < (l.length : Int)) (h1 : 0 ≤ n) (hl : l.length ≤ maxLen) : laws_szCredentialS.f l n = some (-1) := by
  unfold maxLen at hl
  unfold laws_szCredentialS.f
  rw [wrap_in (by omega) (by omega), if_pos (by omega)]

theorem laws_szAccount.fits (a0 : Int) (a1 : Int) (l : List S150) (n : Int) (h0 : n ≤ 1048576) (h : (l.length : Int) ≤ n) : laws_szAccount.f a0 a1 l n = some (n - l.length) := by
  unfold laws_szAccount.f
  rw [laws_szCredentialS.fits l n h0 h]
  simp only [Option.bind_some]
  rw [if_neg (by omega)]
theorem laws_szAccount.big (a0 : Int) (a1 : Int) (l : List S150) (n : Int) (h0 : n ≤ 1048576) (h : n < (l.length : Int)) (h1 : 0 ≤ n) (hl : l.length ≤ maxLen) : laws_szAccount.f a0 a1 l n = some (-1) := by
  unfold laws_szAccount.f
  rw [laws_szCredentialS.big l n h0 h h1 hl]
  rfl

def cvCredential (x : S150) : S124 := ⟨x.f0, x.f1, x.f2, x.f3⟩

theorem laws_toCredentialS.ev (l : List S150) (hl : l.length ≤ 1048576) : Ev (fun k => laws_toCredentialS.f k l) (l.map cvCredential) := by
  unfold laws_toCredentialS.f
  refine ev_pos (by omega) (ev_pos (by omega) ?_)
  refine fill (xs := l) cvCredential (fun k s i => laws_toCredentialS.l0 k l s i) (fun s hs => ?_) (fun i h s hs r ih => ?_) (List.replicate ((l.length : Int)).toNat z124) (by simp)
  · refine Ev.step (fun k => by rw [laws_toCredentialS.l0]) ?_
    exact ev_neg (by omega) (Ev.now _)
  · refine Ev.step (fun k => by rw [laws_toCredentialS.l0]) ?_
    refine ev_pos (by omega) (ev_pos (by omega) (ev_bindc rfl (ev_pos (by omega) ?_)))
    simp only [rd_T150, Int.toNat_natCast, getD_nat h, wrap_succ (show i < 4611686018427387904 by omega)]
    exact ih

theorem laws_toAccount.ev (a0 : Int) (a1 : Int) (l : List S150) (hl : l.length ≤ 1048576) : Ev (fun k => laws_toAccount.f k a0 a1 l) (a0, a1, l.map cvCredential) := by
  unfold laws_toAccount.f
  exact Ev.bind (laws_toCredentialS.ev l (by omega)) (Ev.now _)

theorem laws_eqCredentialS.ev (l : List S124) (hl : l.length < 4611686018427387904) : Ev (fun k => laws_eqCredentialS.f k l l) true := by
  unfold laws_eqCredentialS.f
  refine ev_pos rfl ?_
  refine scan0 (xs := l) (fun k (_ : Unit) i => laws_eqCredentialS.l0 k l l i) (fun _ _ => true) (fun s => ?_) (fun i h s ih => ?_) ()
  · refine Ev.step (fun k => by rw [laws_eqCredentialS.l0]) ?_
    exact ev_neg (by omega) (Ev.now _)
  · refine Ev.step (fun k => by rw [laws_eqCredentialS.l0]) ?_
    refine ev_pos (by omega) (ev_pos (by omega) (ev_pos (by omega) (ev_bindc (a := true) (by simp [laws_eqCredential.f]) (ev_pos rfl ?_))))
    rw [wrap_succ (by omega)]
    exact ih ()

theorem laws_eqAccount.ev (a0 : Int) (a1 : Int) (l : List S124) (hl : l.length < 4611686018427387904) : Ev (fun k => laws_eqAccount.f k a0 a1 l a0 a1 l) true := by
  unfold laws_eqAccount.f
  refine ev_pos rfl ?_
  refine ev_pos rfl ?_
  refine Ev.bind (laws_eqCredentialS.ev l hl) (ev_pos rfl ?_)
  exact Ev.now _

def mkCredential (c : Int) (_ : S124) : Int × S124 := (wrap64 ((wrap64 ((wrap64 ((wrap64 (c + 1)) + 1)) + 1)) + 1), ⟨c, wrap64 (c + 1), wrap64 ((wrap64 (c + 1)) + 1), (Int.tmod (wrap64 ((wrap64 ((wrap64 (c + 1)) + 1)) + 1)) 3 == 0)⟩)
theorem mkCredential_count (c : Int) (x : S124) (h0 : 0 ≤ c) (h : c + (4 : Nat) < 4611686018427387904) : (mkCredential c x).1 = c + (4 : Nat) := by
  simp only [mkCredential]
  unfold wrap64
  omega
theorem mkCredential_list (xs : List S124) (c : Int) (h0 : 0 ≤ c) (h : c + 4 * xs.length < 4611686018427387904) : (markL mkCredential xs c).1 = c + 4 * xs.length := by
  have e : (xs.map (fun _ => 4)).sum = 4 * xs.length := by
    clear h
    induction xs with
    | nil => rfl
    | cons x xs ih => simp only [List.map_cons, List.sum_cons, ih, List.length_cons]; omega
  rw [markL_count mkCredential (fun _ => 4) (fun c x => mkCredential_count c x) xs c h0 (by rw [e]; push_cast; omega), e]
  push_cast
  rfl

theorem laws_markCredentialS.ev (l : List S124) (c : Int) (hl : l.length < 4611686018427387904) : Ev (fun k => laws_markCredentialS.f k l c) (markL mkCredential l c) := by
  unfold laws_markCredentialS.f
  have key : ∀ (d i : Nat) (s : List S124) (c : Int), s.length = l.length → i + d = l.length → Ev (fun k => laws_markCredentialS.l0 k s c (i : Int)) ((markL mkCredential (s.drop i) c).1, s.take i ++ (markL mkCredential (s.drop i) c).2) := by
    intro d
    induction d with
    | zero =>
      intro i s c hs hi
      rw [List.drop_of_length_le (by omega), List.take_of_length_le (by omega)]
      refine Ev.step (fun k => by rw [laws_markCredentialS.l0]) ?_
      refine ev_neg (by omega) ?_
      simpa [markL] using Ev.now (c, s)
    | succ d ih =>
      intro i s c hs hi
      have h : i < s.length := by omega
      have h' := ih (i + 1) (s.set i (mkCredential c s[i]).2) (mkCredential c s[i]).1 (by simp [hs]) (by omega)
      rw [List.drop_eq_getElem_cons h]
      have e1 : (s.set i (mkCredential c s[i]).2).drop (i + 1) = s.drop (i + 1) := by rw [List.drop_set_of_lt (by omega)]
      have e2 : (s.set i (mkCredential c s[i]).2).take (i + 1) = s.take i ++ [(mkCredential c s[i]).2] := by
        rw [List.take_succ_eq_append_getElem (by simpa using h), List.take_set_of_le (by omega)]
        simp
      rw [e1, e2, List.append_assoc] at h'
      refine Ev.step (fun k => by rw [laws_markCredentialS.l0]) ?_
      refine ev_pos (by omega) (ev_pos (by omega) ?_)
      simp only [Option.bind_some, rd_T124, Int.toNat_natCast, getD_set h, List.set_set, wrap_succ (show i < 4611686018427387904 by omega)]
      exact h'
  have := key l.length 0 l c rfl (by omega)
  simpa using this

theorem laws_markAccount.ev (a0 : Int) (a1 : Int) (l : List S124) (c : Int) (hl : l.length < 4611686018427387904) : Ev (fun k => laws_markAccount.f k a0 a1 l c) (markL mkCredential l c) := by
  unfold laws_markAccount.f
  exact Ev.bind (laws_markCredentialS.ev l c hl) (Ev.now _)

theorem laws_eqIntS.ev (l : List Int) (hl : l.length < 4611686018427387904) : Ev (fun k => laws_eqIntS.f k l l) true := by
  unfold laws_eqIntS.f
  refine ev_pos rfl ?_
  refine scan0 (xs := l) (fun k (_ : Unit) i => laws_eqIntS.l0 k l l i) (fun _ _ => true) (fun s => ?_) (fun i h s ih => ?_) ()
  · refine Ev.step (fun k => by rw [laws_eqIntS.l0]) ?_
    exact ev_neg (by omega) (Ev.now _)
  · refine Ev.step (fun k => by rw [laws_eqIntS.l0]) ?_
    refine ev_pos (by omega) (ev_pos (by omega) (ev_pos (by omega) (ev_pos rfl ?_)))
    rw [wrap_succ (by omega)]
    exact ih ()

def mkInt (c : Int) (_ : Int) : Int × Int := (wrap64 (c + 1), c)
theorem mkInt_list (xs : List Int) (c : Int) (h0 : 0 ≤ c) (h : c + xs.length < 4611686018427387904) : (markL mkInt xs c).1 = c + xs.length := by
  have e : (xs.map (fun _ => 1)).sum = xs.length := by
    clear h
    induction xs with
    | nil => rfl
    | cons x xs ih => simp only [List.map_cons, List.sum_cons, ih, List.length_cons]; omega
  rw [markL_count mkInt (fun _ => 1) (fun c x h0 h => by simp only [mkInt]; unfold wrap64; omega) xs c h0 (by rw [e]; omega), e]

theorem laws_markIntS.ev (l : List Int) (c : Int) (hl : l.length < 4611686018427387904) : Ev (fun k => laws_markIntS.f k l c) (markL mkInt l c) := by
  unfold laws_markIntS.f
  have key : ∀ (d i : Nat) (s : List Int) (c : Int), s.length = l.length → i + d = l.length → Ev (fun k => laws_markIntS.l0 k s c (i : Int)) ((markL mkInt (s.drop i) c).1, s.take i ++ (markL mkInt (s.drop i) c).2) := by
    intro d
    induction d with
    | zero =>
      intro i s c hs hi
      rw [List.drop_of_length_le (by omega), List.take_of_length_le (by omega)]
      refine Ev.step (fun k => by rw [laws_markIntS.l0]) ?_
      refine ev_neg (by omega) ?_
      simpa [markL] using Ev.now (c, s)
    | succ d ih =>
      intro i s c hs hi
      have h : i < s.length := by omega
      have h' := ih (i + 1) (s.set i (mkInt c s[i]).2) (mkInt c s[i]).1 (by simp [hs]) (by omega)
      rw [List.drop_eq_getElem_cons h]
      have e1 : (s.set i (mkInt c s[i]).2).drop (i + 1) = s.drop (i + 1) := by rw [List.drop_set_of_lt (by omega)]
      have e2 : (s.set i (mkInt c s[i]).2).take (i + 1) = s.take i ++ [(mkInt c s[i]).2] := by
        rw [List.take_succ_eq_append_getElem (by simpa using h), List.take_set_of_le (by omega)]
        simp
      rw [e1, e2, List.append_assoc] at h'
      refine Ev.step (fun k => by rw [laws_markIntS.l0]) ?_
      refine ev_pos (by omega) (ev_pos (by omega) ?_)
      rw [Int.toNat_natCast, wrap_succ (show i < 4611686018427387904 by omega)]
      exact h'
  have := key l.length 0 l c rfl (by omega)
  simpa using this

theorem laws_heldIntS.ev (l : List Int) (c : Int) (hl : l.length < 4611686018427387904) : Ev (fun k => laws_heldIntS.f k (markL mkInt l c).2 c) (markL mkInt l c).1 := by
  unfold laws_heldIntS.f
  have key : ∀ (ys pre : List Int) (c : Int), pre.length + ys.length < 4611686018427387904 → Ev (fun k => laws_heldIntS.l0 k (pre ++ (markL mkInt ys c).2) c (pre.length : Int)) (markL mkInt ys c).1 := by
    intro ys
    induction ys with
    | nil =>
      intro pre c _
      refine Ev.step (fun k => by rw [laws_heldIntS.l0]) ?_
      refine ev_neg (by simp [markL]) ?_
      exact Ev.now _
    | cons y ys ih =>
      intro pre c hp
      have h' := ih (pre ++ [(mkInt c y).2]) (mkInt c y).1 (by simp at hp ⊢; omega)
      simp only [List.length_cons] at hp
      refine Ev.step (fun k => by rw [laws_heldIntS.l0]) ?_
      refine ev_pos (by simp [markL]; omega) (ev_pos (by omega) ?_)
      have e : rd (pre ++ (markL mkInt (y :: ys) c).2) (pre.length : Int) = (mkInt c y).2 := by simp [rd, markL]
      rw [e, wrap_succ (by omega)]
      simp only [mkInt, if_true]
      simpa [markL, mkInt] using h'
  have := key l [] c (by simpa using hl)
  simpa using this

def keysV (l : List S124) : List Int := (l.filter (fun x => !x.f3)).map (fun x => x.f1)
theorem keysV_cons (x : S124) (l : List S124) : keysV (x :: l) = if x.f3 = true then keysV l else x.f1 :: keysV l := by
  unfold keysV
  cases h : x.f3 <;> simp [h]
theorem keysV_length (l : List S124) : (keysV l).length ≤ l.length := by
  unfold keysV
  rw [List.length_map]
  exact List.length_filter_le _ _

theorem spec_KeysOf.ev (a b : Int) (l : List S124) (hl : l.length < 17592186044000) : Ev (fun k => spec_KeysOf.f k a b l) (keysV l) := by
  unfold spec_KeysOf.f
  have key : ∀ (d i : Nat), i + d = l.length → ∀ s : List Int, s.length ≤ i → Ev (fun k => spec_KeysOf.l0 k s (i : Int) a b l) (s ++ keysV (l.drop i)) := by
    intro d
    induction d with
    | zero =>
      intro i hi s hs
      rw [List.drop_of_length_le (by omega)]
      refine Ev.step (fun k => by rw [spec_KeysOf.l0]) ?_
      refine ev_neg (by omega) ?_
      simpa [keysV] using Ev.now s
    | succ d ih =>
      intro i hi s hs
      have h : i < l.length := by omega
      rw [List.drop_eq_getElem_cons h, keysV_cons]
      refine Ev.step (fun k => by rw [spec_KeysOf.l0]) ?_
      refine ev_pos (by omega) (ev_pos (by omega) ?_)
      rw [rd_T124, getD_get h, wrap_succ (by omega)]
      by_cases h1 : l[i].f3 = true
      · refine ev_pos h1 ?_
        rw [if_pos h1]
        exact ih (i + 1) (by omega) s (by omega)
      · refine ev_neg h1 (ev_pos (by omega) ?_)
        rw [if_neg h1]
        have := ih (i + 1) (by omega) (s ++ [l[i].f1]) (by simp; omega)
        simpa using this
  simpa using key l.length 0 (by omega) [] (by simp)

theorem impl_KeysOf.ev (a b : Int) (l : List S124) (hl : l.length < 17592186044000) : Ev (fun k => impl_KeysOf.f k a b l) (keysV l) := by
  unfold impl_KeysOf.f
  have key : ∀ (d i : Nat), i + d = l.length → ∀ s : List Int, s.length ≤ i → Ev (fun k => impl_KeysOf.l0 k s l l.length (i : Int)) (s ++ keysV (l.drop i)) := by
    intro d
    induction d with
    | zero =>
      intro i hi s hs
      rw [List.drop_of_length_le (by omega)]
      refine Ev.step (fun k => by rw [impl_KeysOf.l0]) ?_
      refine ev_neg (by omega) ?_
      simpa [keysV] using Ev.now s
    | succ d ih =>
      intro i hi s hs
      have h : i < l.length := by omega
      rw [List.drop_eq_getElem_cons h, keysV_cons]
      refine Ev.step (fun k => by rw [impl_KeysOf.l0]) ?_
      refine ev_pos (by omega) (ev_pos (by omega) (ev_pos (by omega) ?_))
      rw [rd_T124, getD_get h, wrap_succ (by omega)]
      by_cases h1 : l[i].f3 = true
      · refine ev_pos h1 ?_
        rw [if_pos h1]
        exact ih (i + 1) (by omega) s (by omega)
      · refine ev_neg h1 (ev_pos (by omega) ?_)
        rw [if_neg h1]
        have := ih (i + 1) (by omega) (s ++ [l[i].f1]) (by simp; omega)
        simpa using this
  simpa using key l.length 0 (by omega) [] (by simp)

theorem FnExactKeysOf : Claim := by
  intro a b l _ _ ⟨hl, _⟩
  refine Ev.rounds (r := true) ?_
  unfold laws_FnExactKeysOf.f
  by_cases h : (l.length : Int) ≤ 1048576
  · refine ev_bindc (laws_szAccount.fits a b l _ (by omega) h) (ev_neg (by omega) ?_)
    have hm : (l.map cvCredential).length ≤ 1048576 := by rw [List.length_map]; omega
    have hk := keysV_length (l.map cvCredential)
    have hc := mkCredential_list (l.map cvCredential) 1 (by omega) (by omega)
    have hc2 := mkInt_list (keysV (l.map cvCredential)) 1 (by omega) (by omega)
    refine Ev.bind (laws_toAccount.ev a b l (by omega)) (Ev.bind (spec_KeysOf.ev a b (l.map cvCredential) (by omega)) ?_)
    refine Ev.bind (laws_toAccount.ev a b l (by omega)) (Ev.bind (impl_KeysOf.ev a b (l.map cvCredential) (by omega)) ?_)
    refine Ev.bind (laws_eqIntS.ev (keysV (l.map cvCredential)) (by omega)) (ev_pos rfl ?_)
    refine Ev.bind (laws_toAccount.ev a b l (by omega)) (Ev.bind (laws_eqAccount.ev a b (l.map cvCredential) (by omega)) (ev_pos rfl ?_))
    refine Ev.bind (laws_markAccount.ev a b (l.map cvCredential) 1 (by omega)) (ev_neg (by rw [hc]; omega) ?_)
    refine Ev.bind (laws_eqIntS.ev (keysV (l.map cvCredential)) (by omega)) (ev_pos rfl ?_)
    refine (Ev.bind (laws_markIntS.ev (keysV (l.map cvCredential)) 1 (by omega)) (Ev.bind (laws_heldIntS.ev (keysV (l.map cvCredential)) 1 (by omega)) ?_))
    refine ev_neg (by rw [hc2]; omega) (ev_pos rfl ?_)
    refine Ev.bind (laws_toAccount.ev a b l (by omega)) (Ev.bind (impl_KeysOf.ev a b (l.map cvCredential) (by omega)) ?_)
    refine Ev.bind (laws_eqIntS.ev (keysV (l.map cvCredential)) (by omega)) (ev_pos rfl (Ev.bind (laws_heldIntS.ev (keysV (l.map cvCredential)) 1 (by omega)) ?_))
    exact ev_neg (by rw [hc2]; omega) (ev_pos rfl (Ev.now _))
  · exact ev_bindc (laws_szAccount.big a b l _ (by omega) (by omega) (by omega) hl) (ev_pos (by omega) (Ev.now _))

end Go.Proofs.Ytanoaneoanpkkaa.Pure
