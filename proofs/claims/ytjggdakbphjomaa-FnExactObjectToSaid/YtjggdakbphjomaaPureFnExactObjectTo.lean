/- The program's ObjectTo returns what the reference's returns, for all arguments that the row lets in; no condition besides. Here: the plain side, over the printed functions. -/
import Derived.Test.YtjggdakbphjomaaZFnExactObjectTox10
import Derived.Test.YtjggdakbphjomaaKitV
namespace Go.Proofs.Ytjggdakbphjomaa.Pure
open Go.RowKit Go.Proofs.Ytjggdakbphjomaa.ZFnExactObjectTo Go.Proofs.YtjggdakbphjomaaW.PrintWords Go.Proofs.YtjggdakbphjomaaW.PrintLast Go.Proofs.YtjggdakbphjomaaW.PrintMore Go.Proofs.Ytjggdakbphjomaa.Kit
set_option linter.unusedVariables false
set_option linter.unusedSimpArgs false

/-- What is known of a Claim that came in. -/
def W133 (x : S133) : Prop := ((Lit.int .i64 x.f0).wf = true) ∧ ((Lit.int .i64 x.f1).wf = true) ∧ ((Lit.int .i64 x.f2).wf = true) ∧ ((Lit.int .i64 x.f3).wf = true) ∧ ((Lit.int .i64 x.f4).wf = true) ∧ ((Lit.int .i64 x.f5).wf = true)
/-- What is to be proved of the printed functions. -/
def Claim : Prop := ∀ (a0_0 : Int), ∀ (l0_1 : List (S133)), ∀ (a1 : Int), ∀ (a2 : Int), ((Lit.int .i64 a0_0).wf = true) → (l0_1.length ≤ maxLen ∧ ∀ y_ ∈ l0_1, W133 y_) → ((Lit.int .i64 a1).wf = true) → ((Lit.int .i64 a2).wf = true) → ∃ k, laws_FnExactObjectTo.f k a0_0 l0_1 a1 a2 = some true

theorem laws_szClaimS.fits (l : List S133) (n : Int) (h0 : n ≤ 1048576) (h : (l.length : Int) ≤ n) : laws_szClaimS.f l n = some (n - l.length) := by
  unfold laws_szClaimS.f
  rw [wrap_in (by omega) (by omega), if_neg (by omega)]
theorem laws_szClaimS.big (l : List S133) (n : Int) (h0 : n ≤ 1048576) (h : n < (l.length : Int)) (h1 : 0 ≤ n) (hl : l.length ≤ maxLen) : laws_szClaimS.f l n = some (-1) := by
  unfold maxLen at hl
  unfold laws_szClaimS.f
  rw [wrap_in (by omega) (by omega), if_pos (by omega)]

theorem laws_szClaimList.fits (a0 : Int) (l : List S133) (n : Int) (h0 : n ≤ 1048576) (h : (l.length : Int) ≤ n) : laws_szClaimList.f a0 l n = some (n - l.length) := by
  unfold laws_szClaimList.f
  rw [laws_szClaimS.fits l n h0 h]
  simp only [Option.bind_some]
  rw [if_neg (by omega)]
theorem laws_szClaimList.big (a0 : Int) (l : List S133) (n : Int) (h0 : n ≤ 1048576) (h : n < (l.length : Int)) (h1 : 0 ≤ n) (hl : l.length ≤ maxLen) : laws_szClaimList.f a0 l n = some (-1) := by
  unfold laws_szClaimList.f
  rw [laws_szClaimS.big l n h0 h h1 hl]
  rfl

def cvClaim (x : S133) : S104 := ⟨x.f0, x.f1, x.f2, x.f3, x.f4, x.f5⟩

theorem laws_toClaimS.ev (l : List S133) (hl : l.length ≤ 1048576) : Ev (fun k => laws_toClaimS.f k l) (l.map cvClaim) := by
  unfold laws_toClaimS.f
  refine ev_pos (by omega) (ev_pos (by omega) ?_)
  refine fill (xs := l) cvClaim (fun k s i => laws_toClaimS.l0 k l s i) (fun s hs => ?_) (fun i h s hs r ih => ?_) (List.replicate ((l.length : Int)).toNat z104) (by simp)
  · refine Ev.step (fun k => by rw [laws_toClaimS.l0]) ?_
    exact ev_neg (by omega) (Ev.now _)
  · refine Ev.step (fun k => by rw [laws_toClaimS.l0]) ?_
    refine ev_pos (by omega) (ev_pos (by omega) (ev_bindc rfl (ev_pos (by omega) ?_)))
    simp only [rd_T133, Int.toNat_natCast, getD_nat h, wrap_succ (show i < 4611686018427387904 by omega)]
    exact ih

theorem laws_toClaimList.ev (a0 : Int) (l : List S133) (hl : l.length ≤ 1048576) : Ev (fun k => laws_toClaimList.f k a0 l) (a0, l.map cvClaim) := by
  unfold laws_toClaimList.f
  exact Ev.bind (laws_toClaimS.ev l (by omega)) (Ev.now _)

theorem laws_eqClaimS.ev (l : List S104) (hl : l.length < 4611686018427387904) : Ev (fun k => laws_eqClaimS.f k l l) true := by
  unfold laws_eqClaimS.f
  refine ev_pos rfl ?_
  refine scan0 (xs := l) (fun k (_ : Unit) i => laws_eqClaimS.l0 k l l i) (fun _ _ => true) (fun s => ?_) (fun i h s ih => ?_) ()
  · refine Ev.step (fun k => by rw [laws_eqClaimS.l0]) ?_
    exact ev_neg (by omega) (Ev.now _)
  · refine Ev.step (fun k => by rw [laws_eqClaimS.l0]) ?_
    refine ev_pos (by omega) (ev_pos (by omega) (ev_pos (by omega) (ev_bindc (a := true) (by simp [laws_eqClaim.f]) (ev_pos rfl ?_))))
    rw [wrap_succ (by omega)]
    exact ih ()

theorem laws_eqClaimList.ev (a0 : Int) (l : List S104) (hl : l.length < 4611686018427387904) : Ev (fun k => laws_eqClaimList.f k a0 l a0 l) true := by
  unfold laws_eqClaimList.f
  refine ev_pos rfl ?_
  refine Ev.bind (laws_eqClaimS.ev l hl) (ev_pos rfl ?_)
  exact Ev.now _

def mkClaim (c : Int) (_ : S104) : Int × S104 := (wrap64 ((wrap64 ((wrap64 ((wrap64 ((wrap64 ((wrap64 (c + 1)) + 1)) + 1)) + 1)) + 1)) + 1), ⟨c, wrap64 (c + 1), wrap64 ((wrap64 (c + 1)) + 1), wrap64 ((wrap64 ((wrap64 (c + 1)) + 1)) + 1), wrap64 ((wrap64 ((wrap64 ((wrap64 (c + 1)) + 1)) + 1)) + 1), wrap64 ((wrap64 ((wrap64 ((wrap64 ((wrap64 (c + 1)) + 1)) + 1)) + 1)) + 1)⟩)
theorem mkClaim_count (c : Int) (x : S104) (h0 : 0 ≤ c) (h : c + (6 : Nat) < 4611686018427387904) : (mkClaim c x).1 = c + (6 : Nat) := by
  simp only [mkClaim]
  unfold wrap64
  omega
theorem mkClaim_list (xs : List S104) (c : Int) (h0 : 0 ≤ c) (h : c + 6 * xs.length < 4611686018427387904) : (markL mkClaim xs c).1 = c + 6 * xs.length := by
  have e : (xs.map (fun _ => 6)).sum = 6 * xs.length := by
    clear h
    induction xs with
    | nil => rfl
    | cons x xs ih => simp only [List.map_cons, List.sum_cons, ih, List.length_cons]; omega
  rw [markL_count mkClaim (fun _ => 6) (fun c x => mkClaim_count c x) xs c h0 (by rw [e]; push_cast; omega), e]
  push_cast
  rfl

theorem laws_markClaimS.ev (l : List S104) (c : Int) (hl : l.length < 4611686018427387904) : Ev (fun k => laws_markClaimS.f k l c) (markL mkClaim l c) := by
  unfold laws_markClaimS.f
  have key : ∀ (d i : Nat) (s : List S104) (c : Int), s.length = l.length → i + d = l.length → Ev (fun k => laws_markClaimS.l0 k s c (i : Int)) ((markL mkClaim (s.drop i) c).1, s.take i ++ (markL mkClaim (s.drop i) c).2) := by
    intro d
    induction d with
    | zero =>
      intro i s c hs hi
      rw [List.drop_of_length_le (by omega), List.take_of_length_le (by omega)]
      refine Ev.step (fun k => by rw [laws_markClaimS.l0]) ?_
      refine ev_neg (by omega) ?_
      simpa [markL] using Ev.now (c, s)
    | succ d ih =>
      intro i s c hs hi
      have h : i < s.length := by omega
      have h' := ih (i + 1) (s.set i (mkClaim c s[i]).2) (mkClaim c s[i]).1 (by simp [hs]) (by omega)
      rw [List.drop_eq_getElem_cons h]
      have e1 : (s.set i (mkClaim c s[i]).2).drop (i + 1) = s.drop (i + 1) := by rw [List.drop_set_of_lt (by omega)]
      have e2 : (s.set i (mkClaim c s[i]).2).take (i + 1) = s.take i ++ [(mkClaim c s[i]).2] := by
        rw [List.take_succ_eq_append_getElem (by simpa using h), List.take_set_of_le (by omega)]
        simp
      rw [e1, e2, List.append_assoc] at h'
      refine Ev.step (fun k => by rw [laws_markClaimS.l0]) ?_
      refine ev_pos (by omega) (ev_pos (by omega) ?_)
      simp only [Option.bind_some, rd_T104, Int.toNat_natCast, getD_set h, List.set_set, wrap_succ (show i < 4611686018427387904 by omega)]
      exact h'
  have := key l.length 0 l c rfl (by omega)
  simpa using this

theorem laws_markClaimList.ev (a0 : Int) (l : List S104) (c : Int) (hl : l.length < 4611686018427387904) : Ev (fun k => laws_markClaimList.f k a0 l c) (markL mkClaim l c) := by
  unfold laws_markClaimList.f
  exact Ev.bind (laws_markClaimS.ev l c hl) (Ev.now _)

theorem laws_heldClaimS.ev (l : List S104) (c : Int) (hl : l.length < 4611686018427387904) : Ev (fun k => laws_heldClaimS.f k (markL mkClaim l c).2 c) (markL mkClaim l c).1 := by
  unfold laws_heldClaimS.f
  have hl' : (markL mkClaim l c).2.length < 4611686018427387904 := by rw [markL_length]; exact hl
  have key : ∀ (ys pre : List S104) (c : Int), pre.length + ys.length < 4611686018427387904 → Ev (fun k => laws_heldClaimS.l0 k (pre ++ (markL mkClaim ys c).2) c (pre.length : Int)) (markL mkClaim ys c).1 := by
    intro ys
    induction ys with
    | nil =>
      intro pre c _
      refine Ev.step (fun k => by rw [laws_heldClaimS.l0]) ?_
      refine ev_neg (by simp [markL]) ?_
      exact Ev.now _
    | cons y ys ih =>
      intro pre c hp
      have h' := ih (pre ++ [(mkClaim c y).2]) (mkClaim c y).1 (by simp at hp ⊢; omega)
      simp only [List.length_cons] at hp
      refine Ev.step (fun k => by rw [laws_heldClaimS.l0]) ?_
      refine ev_pos (by simp [markL]; omega) (ev_pos (by omega) ?_)
      have e : rd_T104 (pre ++ (markL mkClaim (y :: ys) c).2) (pre.length : Int) = (mkClaim c y).2 := by simp [rd_T104, markL]
      rw [e, wrap_succ (by omega)]
      simp only [mkClaim, ne_eq, if_true, bne_self_eq_false, Bool.false_eq_true, if_false]
      simpa [markL, mkClaim] using h'
  have := key l [] c (by simpa using hl)
  simpa using this

theorem laws_heldClaimList.ev (a0 : Int) (l : List S104) (c : Int) (hl : l.length < 4611686018427387904) (h0 : 0 ≤ (markL mkClaim l c).1) : Ev (fun k => laws_heldClaimList.f k a0 (markL mkClaim l c).2 c) (markL mkClaim l c).1 := by
  unfold laws_heldClaimList.f
  exact Ev.bind (laws_heldClaimS.ev l c hl) (ev_neg (by omega) (Ev.now _))

def findClaimGo (id : Int) : List S104 → Nat → Int
  | [], _ => -1
  | x :: xs, i => if x.f0 = id then (i : Int) else findClaimGo id xs (i + 1)
def findClaimV (l : List S104) (id : Int) : Int := findClaimGo id l 0
theorem findClaimGo_range (id : Int) : ∀ (l : List S104) (i : Nat), findClaimGo id l i = -1 ∨ ((i : Int) ≤ findClaimGo id l i ∧ findClaimGo id l i < i + l.length)
  | [], i => .inl rfl
  | x :: xs, i => by
    simp only [findClaimGo, List.length_cons]
    split
    · right; omega
    · have := findClaimGo_range id xs (i + 1)
      omega
theorem findClaim_range (l : List S104) (id : Int) : findClaimV l id = -1 ∨ (0 ≤ findClaimV l id ∧ findClaimV l id < l.length) := by
  have := findClaimGo_range id l 0
  unfold findClaimV
  omega

def openV (l : List S104) (a : Int) : List Int := (l.filter (fun x => decide (x.f1 = a) && decide (x.f5 = 1))).map (fun x => x.f0)
theorem openV_cons (x : S104) (l : List S104) (a : Int) : openV (x :: l) a = if x.f1 = a ∧ x.f5 = 1 then x.f0 :: openV l a else openV l a := by
  unfold openV
  by_cases h : x.f1 = a ∧ x.f5 = 1
  · simp [h]
  · rw [if_neg h, List.filter_cons_of_neg (by simpa using h)]
theorem openV_length (l : List S104) (a : Int) : (openV l a).length ≤ l.length := by
  unfold openV
  rw [List.length_map]
  exact List.length_filter_le _ _

theorem claimTail {J : Nat → Bool → Option Bool} {p2 p3 p5 : Prop} [Decidable p2] [Decidable p3] [Decidable p5] {w : Int} {r : Bool} (good : p2 → p3 → (w = 30 ∨ w = 90) → p5 → Ev (fun k => J k false) r) (bad : ¬ (p2 ∧ p3 ∧ (w = 30 ∨ w = 90) ∧ p5) → Ev (fun k => J k true) r) : Ev (fun k => if p2 then (if p3 then (if w = 30 then J k (!decide p5) else (if w = 90 then J k (!decide p5) else J k true)) else J k true) else J k true) r := by
  have last : p2 → p3 → (w = 30 ∨ w = 90) → Ev (fun k => J k (!decide p5)) r := by
    intro h2 h3 h4
    by_cases h5 : p5
    · simp only [decide_eq_true h5, Bool.not_true]
      exact good h2 h3 h4 h5
    · simp only [decide_eq_false h5, Bool.not_false]
      exact bad (fun h => h5 h.2.2.2)
  refine ev_both (fun h2 => ?_) (fun h2 => bad (fun h => h2 h.1))
  refine ev_both (fun h3 => ?_) (fun h3 => bad (fun h => h3 h.2.1))
  refine ev_both (fun h4 => last h2 h3 (Or.inl h4)) (fun h4 => ?_)
  refine ev_both (fun h5 => last h2 h3 (Or.inr h5)) (fun h5 => bad (fun h => ?_))
  exact h.2.2.1.elim h4 h5
theorem claimChain {J : Nat → Bool → Option Bool} {p0 p2 p3 p5 : Prop} [Decidable p0] [Decidable p2] [Decidable p3] [Decidable p5] {w f g : Int} {i n : Nat} (hi : i < n) {r : Bool} (good : p0 → (0 < i → f < g) → p2 → p3 → (w = 30 ∨ w = 90) → p5 → Ev (fun k => J k false) r) (bad : ¬ (p0 ∧ (0 < i → f < g) ∧ p2 ∧ p3 ∧ (w = 30 ∨ w = 90) ∧ p5) → Ev (fun k => J k true) r) : Ev (fun k => if p0 then (if (i : Int) > 0 then (if 0 ≤ (i : Int) - 1 then (if (i : Int) - 1 < (n : Int) then (if f ≥ g then J k true else (if p2 then (if p3 then (if w = 30 then J k (!decide p5) else (if w = 90 then J k (!decide p5) else J k true)) else J k true) else J k true)) else none) else none) else (if p2 then (if p3 then (if w = 30 then J k (!decide p5) else (if w = 90 then J k (!decide p5) else J k true)) else J k true) else J k true)) else J k true) r := by
  refine ev_both (fun h0 => ?_) (fun h0 => bad (fun h => h0 h.1))
  refine ev_both (fun h => ?_) (fun h => ?_)
  · refine ev_pos (by omega) (ev_pos (by omega) (ev_both (fun h1 => bad (fun q => ?_)) (fun h1 => ?_)))
    · have := q.2.1 (by omega)
      omega
    · exact claimTail (J := J) (good h0 (fun _ => by omega)) (fun q => bad (fun a => q a.2.2))
  · exact claimTail (J := J) (good h0 (fun _ => by omega)) (fun q => bad (fun a => q a.2.2))

def claimOk (n : Int) (l : List S104) (i : Nat) : Prop := (0 ≤ (rd_T104 l i).f0 ∧ (rd_T104 l i).f0 ≤ wrap64 (n - 1)) ∧ (0 < i → (rd_T104 l ((i : Int) - 1)).f0 < (rd_T104 l i).f0) ∧ (0 ≤ (rd_T104 l i).f1 ∧ (rd_T104 l i).f1 ≤ 1000000) ∧ (0 ≤ (rd_T104 l i).f3 ∧ (rd_T104 l i).f3 ≤ 1000000) ∧ ((rd_T104 l i).f4 = 30 ∨ (rd_T104 l i).f4 = 90) ∧ (1 ≤ (rd_T104 l i).f5 ∧ (rd_T104 l i).f5 ≤ 3)
def claimOne (l : List S104) (i : Nat) : Prop := (rd_T104 l i).f5 = 1 → ¬ 1 < (openV l (rd_T104 l i).f1).length
def claimTwo (l : List S104) (i j : Nat) : Prop := (rd_T104 l j).f5 = 1 ∧ (rd_T104 l i).f5 = 1 ∧ (rd_T104 l j).f1 = (rd_T104 l i).f1
noncomputable def validClaimsV (n : Int) (l : List S104) : Bool := dec ((∀ i, i < l.length → claimOk n l i ∧ ∀ j, j < i → ¬ claimTwo l i j) ∧ (0 ≤ n ∧ n ≤ 1000000) ∧ l.length ≤ 10)
def openAt (l : List S104) (a : Int) (i : Nat) : Prop := (rd_T104 l i).f1 = a ∧ (rd_T104 l i).f5 = 1
theorem openAt_zero (c : S104) (l : List S104) (a : Int) : openAt (c :: l) a 0 ↔ c.f1 = a ∧ c.f5 = 1 := by
  have e : rd_T104 (c :: l) ((0 : Nat) : Int) = c := by unfold rd_T104; rfl
  unfold openAt
  rw [e]
theorem openAt_succ (c : S104) (l : List S104) (a : Int) (i : Nat) : openAt (c :: l) a (i + 1) ↔ openAt l a i := by
  have e : rd_T104 (c :: l) ((i + 1 : Nat) : Int) = rd_T104 l (i : Int) := by unfold rd_T104; rfl
  unfold openAt
  rw [e]
theorem open_one (l : List S104) (a : Int) : 1 ≤ (openV l a).length ↔ ∃ i, i < l.length ∧ openAt l a i := by
  induction l with
  | nil => exact ⟨fun h => by simp [openV] at h, fun ⟨i, h, _⟩ => by simp at h⟩
  | cons c l ih =>
    rw [openV_cons]
    by_cases m : c.f1 = a ∧ c.f5 = 1
    · rw [if_pos m]
      exact ⟨fun _ => ⟨0, by simp, (openAt_zero c l a).2 m⟩, fun _ => by simp⟩
    · rw [if_neg m, ih]
      constructor
      · intro ⟨i, h, q⟩
        exact ⟨i + 1, by simp only [List.length_cons]; omega, (openAt_succ c l a i).2 q⟩
      · intro ⟨i, h, q⟩
        cases i with
        | zero => exact absurd ((openAt_zero c l a).1 q) m
        | succ i => exact ⟨i, by simp only [List.length_cons] at h; omega, (openAt_succ c l a i).1 q⟩
theorem open_two (l : List S104) (a : Int) : 2 ≤ (openV l a).length ↔ ∃ i j, j < i ∧ i < l.length ∧ openAt l a i ∧ openAt l a j := by
  induction l with
  | nil => exact ⟨fun h => by simp [openV] at h, fun ⟨i, j, _, h, _⟩ => by simp at h⟩
  | cons c l ih =>
    rw [openV_cons]
    by_cases m : c.f1 = a ∧ c.f5 = 1
    · rw [if_pos m]
      constructor
      · intro h
        obtain ⟨i, hi, q⟩ := (open_one l a).1 (by simp only [List.length_cons] at h; omega)
        exact ⟨i + 1, 0, by omega, by simp only [List.length_cons]; omega, (openAt_succ c l a i).2 q, (openAt_zero c l a).2 m⟩
      · intro ⟨i, j, hj, hi, q, _⟩
        cases i with
        | zero => omega
        | succ i =>
          have := (open_one l a).2 ⟨i, by simp only [List.length_cons] at hi; omega, (openAt_succ c l a i).1 q⟩
          simp only [List.length_cons]; omega
    · rw [if_neg m, ih]
      constructor
      · intro ⟨i, j, hj, hi, q, q'⟩
        exact ⟨i + 1, j + 1, by omega, by simp only [List.length_cons]; omega, (openAt_succ c l a i).2 q, (openAt_succ c l a j).2 q'⟩
      · intro ⟨i, j, hj, hi, q, q'⟩
        cases j with
        | zero => exact absurd ((openAt_zero c l a).1 q') m
        | succ j =>
          cases i with
          | zero => omega
          | succ i => exact ⟨i, j, by omega, by simp only [List.length_cons] at hi; omega, (openAt_succ c l a i).1 q, (openAt_succ c l a j).1 q'⟩
theorem claims_agree (n : Int) (l : List S104) : (∀ i, i < l.length → claimOk n l i ∧ claimOne l i) ↔ (∀ i, i < l.length → claimOk n l i ∧ ∀ j, j < i → ¬ claimTwo l i j) := by
  constructor
  · intro H i hi
    refine ⟨(H i hi).1, fun j hj t => ?_⟩
    refine (H i hi).2 t.2.1 ?_
    exact (open_two l _).2 ⟨i, j, hj, hi, ⟨rfl, t.2.1⟩, ⟨t.2.2, t.1⟩⟩
  · intro H i hi
    refine ⟨(H i hi).1, fun _ h => ?_⟩
    obtain ⟨i', j', hj, hi', q, q'⟩ := (open_two l (rd_T104 l i).f1).1 h
    exact (H i' hi').2 j' hj ⟨q'.2, q.2, q'.1.trans q.1.symm⟩

noncomputable def objectV (n : Int) (l : List S104) (id t : Int) : Int × List S104 × Bool :=
  if validClaimsV n l = true then (if findClaimV l id < 0 then (n, l, false) else (if (rd_T104 l (findClaimV l id)).f5 = 1 then (if ((rd_T104 l (findClaimV l id)).f3 ≤ t ∧ t ≤ wrap64 (((rd_T104 l (findClaimV l id)).f3) + ((rd_T104 l (findClaimV l id)).f4))) then (n, l.set (findClaimV l id).toNat ⟨(rd_T104 l (findClaimV l id)).f0, (rd_T104 l (findClaimV l id)).f1, (rd_T104 l (findClaimV l id)).f2, (rd_T104 l (findClaimV l id)).f3, (rd_T104 l (findClaimV l id)).f4, 2⟩, true) else (n, l, false)) else (n, l, false))) else (n, l, false)
theorem objectV_length (n : Int) (l : List S104) (id t : Int) : (objectV n l id t).2.1.length = l.length := by
  unfold objectV
  repeat' split
  all_goals simp

theorem spec_l28Copy.val (n : Int) (l : List S104) (hl : l.length < 2932031007402) : spec_l28Copy.f n l = some (n, l) := by
  unfold spec_l28Copy.f
  simp only [Option.bind_some, List.nil_append, List.length_nil]
  rw [if_pos (by omega)]

theorem spec_l28Find.ev (n : Int) (l : List S104) (id : Int) (hl : l.length < 4611686018427387904) : Ev (fun k => spec_l28Find.f k n l id) (findClaimV l id) := by
  unfold spec_l28Find.f findClaimV
  have key : ∀ (d i : Nat), i + d = l.length → Ev (fun k => spec_l28Find.l0 k id (i : Int) n l) (findClaimGo id (l.drop i) i) := by
    intro d
    induction d with
    | zero =>
      intro i hi
      rw [List.drop_of_length_le (by omega)]
      refine Ev.step (fun k => by rw [spec_l28Find.l0]) ?_
      exact ev_neg (by omega) (Ev.now _)
    | succ d ih =>
      intro i hi
      have h : i < l.length := by omega
      rw [List.drop_eq_getElem_cons h]
      refine Ev.step (fun k => by rw [spec_l28Find.l0]) ?_
      refine ev_pos (by omega) (ev_pos (by omega) ?_)
      rw [rd_T104, getD_get h, wrap_succ (by omega)]
      exact ev_ite (fun _ => Ev.now _) (fun _ => ih (i + 1) (by omega))
  simpa using key l.length 0 (by omega)

theorem spec_l1In.val (a b c : Int) : spec_l1In.f a b c = some (decide (b ≤ a ∧ a ≤ c)) := by
  unfold spec_l1In.f
  by_cases h : a ≥ b
  · rw [if_pos h]; simp only [ge_iff_le] at h; simp [h]
  · rw [if_neg h]; simp only [ge_iff_le] at h; simp [h]

theorem spec_OpenClaims.ev (n : Int) (l : List S104) (a : Int) (hl : l.length < 17592186044000) : Ev (fun k => spec_OpenClaims.f k n l a) (openV l a) := by
  unfold spec_OpenClaims.f
  have key : ∀ (d i : Nat), i + d = l.length → ∀ s : List Int, s.length ≤ i → Ev (fun k => spec_OpenClaims.l0 k a s (i : Int) n l) (s ++ openV (l.drop i) a) := by
    intro d
    induction d with
    | zero =>
      intro i hi s hs
      rw [List.drop_of_length_le (by omega)]
      refine Ev.step (fun k => by rw [spec_OpenClaims.l0]) ?_
      refine ev_neg (by omega) ?_
      simpa [openV] using Ev.now s
    | succ d ih =>
      intro i hi s hs
      have h : i < l.length := by omega
      rw [List.drop_eq_getElem_cons h, openV_cons]
      refine Ev.step (fun k => by rw [spec_OpenClaims.l0]) ?_
      refine ev_pos (by omega) (ev_pos (by omega) ?_)
      rw [rd_T104, getD_get h, wrap_succ (by omega)]
      by_cases h1 : l[i].f1 = a
      · by_cases h2 : l[i].f5 = 1
        · refine ev_pos h1 (ev_pos h2 (ev_pos (by omega) ?_))
          rw [if_pos ⟨h1, h2⟩]
          have := ih (i + 1) (by omega) (s ++ [l[i].f0]) (by simp; omega)
          simpa using this
        · refine ev_pos h1 (ev_neg h2 ?_)
          rw [if_neg (fun h => h2 h.2)]
          exact ih (i + 1) (by omega) s (by omega)
      · refine ev_neg h1 ?_
        rw [if_neg (fun h => h1 h.1)]
        exact ih (i + 1) (by omega) s (by omega)
  simpa using key l.length 0 (by omega) [] (by simp)

theorem spec_IsValidClaims.out (n : Int) (l : List S104) (i : Int) (c0 c1 c2 c3 c4 c5 : Int) : Ev (fun k => spec_IsValidClaims.j1 k i true n l c0 c1 c2 c3 c4 c5) false := by
  refine Ev.step (fun k => by rw [spec_IsValidClaims.j1]) ?_
  exact ev_pos rfl (Ev.now _)
theorem spec_IsValidClaims.ev (n : Int) (l : List S104) (hl : l.length < 17592186044000) : Ev (fun k => spec_IsValidClaims.f k n l) (validClaimsV n l) := by
  unfold spec_IsValidClaims.f
  have e : validClaimsV n l = dec ((∀ i, i < l.length → claimOk n l i ∧ claimOne l i) ∧ (0 ≤ n ∧ n ≤ 1000000) ∧ l.length ≤ 10) := by
    unfold validClaimsV
    rw [propext (claims_agree n l)]
  rw [e]
  refine scan_all (n := l.length) (fun k i => spec_IsValidClaims.l0 k i n l) (fun i => claimOk n l i ∧ claimOne l i) _ ?_ (fun i hi q r ih => ?_) (fun i hi q => ?_)
  · refine Ev.step (fun k => by rw [spec_IsValidClaims.l0]) (ev_neg (by omega) (ev_bindc (spec_l1In.val _ _ _) ?_))
    by_cases h1 : 0 ≤ n ∧ n ≤ 1000000
    · refine ev_pos (by simpa using h1) (ev_const ?_)
      rw [dec_decide, dec_eq (P := (l.length : Int) ≤ 10) (Q := (0 ≤ n ∧ n ≤ 1000000) ∧ l.length ≤ 10) ⟨fun h => ⟨h1, by omega⟩, fun h => by omega⟩]
    · rw [dec_false (fun h => h1 h.1)]
      exact ev_neg (by simpa using h1) (Ev.now _)
  · have e1 := wrap_in (x := (i : Int) - 1) (show -9223372036854775808 ≤ (i : Int) - 1 by omega) (show (i : Int) - 1 ≤ 9223372036854775807 by omega)
    refine Ev.step (fun k => by rw [spec_IsValidClaims.l0]) (ev_pos (by omega) (ev_pos (by omega) ?_))
    simp only [spec_l1In.val, Option.bind_some, e1, decide_eq_true_eq]
    refine claimChain (J := fun k b => spec_IsValidClaims.j1 k (i : Int) b n l (rd_T104 l i).f0 (rd_T104 l i).f1 (rd_T104 l i).f2 (rd_T104 l i).f3 (rd_T104 l i).f4 (rd_T104 l i).f5) hi (fun _ _ _ _ _ _ => ?_) (fun h => absurd q.1 h)
    refine Ev.step (fun k => by rw [spec_IsValidClaims.j1]) (ev_neg (by simp) ?_)
    rw [wrap_succ (i := i) (by omega)]
    refine ev_both (fun h => Ev.bind (spec_OpenClaims.ev n l _ hl) (ev_neg ?_ ih)) (fun h => ih)
    have := q.2 h
    omega
  · have e1 := wrap_in (x := (i : Int) - 1) (show -9223372036854775808 ≤ (i : Int) - 1 by omega) (show (i : Int) - 1 ≤ 9223372036854775807 by omega)
    refine Ev.step (fun k => by rw [spec_IsValidClaims.l0]) (ev_pos (by omega) (ev_pos (by omega) ?_))
    simp only [spec_l1In.val, Option.bind_some, e1, decide_eq_true_eq]
    refine claimChain (J := fun k b => spec_IsValidClaims.j1 k (i : Int) b n l (rd_T104 l i).f0 (rd_T104 l i).f1 (rd_T104 l i).f2 (rd_T104 l i).f3 (rd_T104 l i).f4 (rd_T104 l i).f5) hi (fun a0 a1 a2 a3 a4 a5 => ?_) (fun _ => spec_IsValidClaims.out n l i _ _ _ _ _ _)
    refine Ev.step (fun k => by rw [spec_IsValidClaims.j1]) (ev_neg (by simp) ?_)
    have no : ¬ claimOne l i := fun h => q ⟨⟨a0, a1, a2, a3, a4, a5⟩, h⟩
    unfold claimOne at no
    by_cases h : (rd_T104 l i).f5 = 1
    · refine ev_pos h (Ev.bind (spec_OpenClaims.ev n l _ hl) (ev_pos ?_ (Ev.now _)))
      have : 1 < (openV l (rd_T104 l i).f1).length := Classical.byContradiction fun h' => no (fun _ => h')
      omega
    · exact absurd (fun h' => absurd h' h) no

theorem spec_ObjectTo.ev (n : Int) (l : List S104) (id t : Int) (hl : l.length < 1000000000) : Ev (fun k => spec_ObjectTo.f k n l id t) (objectV n l id t) := by
  unfold spec_ObjectTo.f objectV
  have r := findClaim_range l id
  refine ev_bindc (spec_l28Copy.val n l (by omega)) (Ev.bind (spec_l28Find.ev n l id (by omega)) (Ev.bind (spec_IsValidClaims.ev n l (by omega)) ?_))
  refine ev_ite (fun _ => ev_ite (fun _ => Ev.now _) (fun _ => ?_)) (fun _ => Ev.now _)
  refine ev_pos (by omega) (ev_pos (by omega) ?_)
  refine ev_ite (fun _ => ev_bindc (spec_l1In.val _ _ _) ?_) (fun _ => Ev.now _)
  simp only [decide_eq_true_eq]
  refine ev_ite (fun _ => ?_) (fun _ => Ev.now _)
  exact ev_pos (by first | omega | (simp only; omega)) (Ev.now _)

theorem impl_copyClaims.val (n : Int) (l : List S104) (hl : l.length < 2932031007402) : impl_copyClaims.f n l = some (n, l) := by
  unfold impl_copyClaims.f
  simp only [Option.bind_some, List.nil_append, List.length_nil]
  rw [if_pos (by omega)]

theorem impl_findClaim.ev (n : Int) (l : List S104) (id : Int) (hl : l.length < 4611686018427387904) : Ev (fun k => impl_findClaim.f k n l id) (findClaimV l id) := by
  unfold impl_findClaim.f findClaimV
  have key : ∀ (d i : Nat), i + d = l.length → Ev (fun k => impl_findClaim.l0 k id l l.length (i : Int)) (findClaimGo id (l.drop i) i) := by
    intro d
    induction d with
    | zero =>
      intro i hi
      rw [List.drop_of_length_le (by omega)]
      refine Ev.step (fun k => by rw [impl_findClaim.l0]) ?_
      exact ev_neg (by omega) (Ev.now _)
    | succ d ih =>
      intro i hi
      have h : i < l.length := by omega
      rw [List.drop_eq_getElem_cons h]
      refine Ev.step (fun k => by rw [impl_findClaim.l0]) ?_
      refine ev_pos (by omega) (ev_pos (by omega) (ev_pos (by omega) ?_))
      rw [rd_T104, getD_get h, wrap_succ (by omega)]
      exact ev_ite (fun _ => Ev.now _) (fun _ => ih (i + 1) (by omega))
  simpa using key l.length 0 (by omega)

theorem impl_InRange.val (a b c : Int) : impl_InRange.f a b c = some (decide (b ≤ a ∧ a ≤ c)) := by
  unfold impl_InRange.f
  by_cases h : b ≤ a
  · rw [if_pos h]; simp [h]
  · rw [if_neg h]; simp [h]

theorem impl_IsValidClaims.inner (n : Int) (l : List S104) (hl : l.length < 4611686018427387904) (i : Nat) (hi : i < l.length) (c0 c2 c3 c4 : Int) : ∀ j, j < i → ¬ claimTwo l i j → ∀ r, Ev (fun k => impl_IsValidClaims.l1 k l l.length i (l.take i) (l.take i).length ((j + 1 : Nat) : Int) n l c0 (rd_T104 l i).f1 c2 c3 c4 (rd_T104 l i).f5) r → Ev (fun k => impl_IsValidClaims.l1 k l l.length i (l.take i) (l.take i).length (j : Int) n l c0 (rd_T104 l i).f1 c2 c3 c4 (rd_T104 l i).f5) r := by
  intro j hj q r ih
  have e : rd_T104 (l.take i) (j : Int) = rd_T104 l (j : Int) := by
    unfold rd_T104
    rw [getD_get (by rw [List.length_take]; omega), getD_get (by omega), List.getElem_take]
  have m : (l.take i).length = i := by rw [List.length_take]; omega
  refine Ev.step (fun k => by rw [impl_IsValidClaims.l1]) ?_
  rw [wrap_succ (i := j) (by omega), e]
  refine ev_pos (by omega) (ev_pos (by omega) (ev_pos (by omega) ?_))
  exact ev_both (fun h1 => ev_both (fun h2 => ev_neg (fun h3 => q ⟨h1, h2, h3⟩) ih) (fun _ => ih)) (fun _ => ih)
theorem impl_IsValidClaims.miss (n : Int) (l : List S104) (hl : l.length < 4611686018427387904) (i : Nat) (hi : i < l.length) (c0 c2 c3 c4 : Int) (h : ∀ j, j < i → ¬ claimTwo l i j) (r : Bool) (ih : Ev (fun k => impl_IsValidClaims.l0 k l l.length ((i + 1 : Nat) : Int) n l) r) : Ev (fun k => impl_IsValidClaims.j2 k (i : Int) l l.length i false n l c0 (rd_T104 l i).f1 c2 c3 c4 (rd_T104 l i).f5) r := by
  have m : (l.take i).length = i := by rw [List.length_take]; omega
  refine Ev.step (fun k => by rw [impl_IsValidClaims.j2]) (ev_neg (by simp) (ev_pos (by omega) (ev_pos (by omega) ?_)))
  simp only [Int.toNat_natCast, Option.bind_some]
  refine scan_miss (n := i) (fun k j => impl_IsValidClaims.l1 k l l.length i (l.take i) (l.take i).length j n l c0 (rd_T104 l i).f1 c2 c3 c4 (rd_T104 l i).f5) (claimTwo l i) r ?_ (impl_IsValidClaims.inner n l hl i hi c0 c2 c3 c4) h
  refine Ev.step (fun k => by rw [impl_IsValidClaims.l1]) ?_
  rw [wrap_succ (i := i) (by omega)]
  exact ev_neg (by omega) ih
theorem impl_IsValidClaims.hit (n : Int) (l : List S104) (hl : l.length < 4611686018427387904) (i : Nat) (hi : i < l.length) (c0 c2 c3 c4 : Int) (h : ∃ j, j < i ∧ claimTwo l i j) : Ev (fun k => impl_IsValidClaims.j2 k (i : Int) l l.length i false n l c0 (rd_T104 l i).f1 c2 c3 c4 (rd_T104 l i).f5) false := by
  have m : (l.take i).length = i := by rw [List.length_take]; omega
  refine Ev.step (fun k => by rw [impl_IsValidClaims.j2]) (ev_neg (by simp) (ev_pos (by omega) (ev_pos (by omega) ?_)))
  simp only [Int.toNat_natCast, Option.bind_some]
  refine scan_hit (n := i) (fun k j => impl_IsValidClaims.l1 k l l.length i (l.take i) (l.take i).length j n l c0 (rd_T104 l i).f1 c2 c3 c4 (rd_T104 l i).f5) (claimTwo l i) false (impl_IsValidClaims.inner n l hl i hi c0 c2 c3 c4) (fun j hj q => ?_) h
  have e2 : rd_T104 (l.take i) (j : Int) = rd_T104 l (j : Int) := by
    unfold rd_T104
    rw [getD_get (by rw [List.length_take]; omega), getD_get (by omega), List.getElem_take]
  refine Ev.step (fun k => by rw [impl_IsValidClaims.l1]) ?_
  rw [e2]
  exact ev_pos (by omega) (ev_pos (by omega) (ev_pos (by omega) (ev_pos q.1 (ev_pos q.2.1 (ev_pos q.2.2 (Ev.now _))))))
theorem impl_IsValidClaims.out (n : Int) (l : List S104) (i m : Int) (c0 c1 c2 c3 c4 c5 : Int) : Ev (fun k => impl_IsValidClaims.j2 k i l m i true n l c0 c1 c2 c3 c4 c5) false := by
  refine Ev.step (fun k => by rw [impl_IsValidClaims.j2]) ?_
  exact ev_pos rfl (Ev.now _)
theorem impl_IsValidClaims.ev (n : Int) (l : List S104) (hl : l.length < 4611686018427387904) : Ev (fun k => impl_IsValidClaims.f k n l) (validClaimsV n l) := by
  unfold impl_IsValidClaims.f
  have no : ¬ ((0 ≤ n ∧ n ≤ 1000000) ∧ l.length ≤ 10) → Ev (fun k => impl_IsValidClaims.j0 k true n l) (validClaimsV n l) := by
    intro h
    unfold validClaimsV
    rw [dec_false (fun g => h g.2)]
    refine Ev.step (fun k => by rw [impl_IsValidClaims.j0]) ?_
    exact ev_pos rfl (Ev.now _)
  refine ev_bindc (impl_InRange.val _ _ _) ?_
  by_cases h1 : 0 ≤ n ∧ n ≤ 1000000
  rotate_left
  · exact ev_neg (by simpa using h1) (no (fun h => h1 h.1))
  refine ev_pos (by simpa using h1) ?_
  by_cases h3 : l.length ≤ 10
  rotate_left
  · rw [decide_eq_true (show (l.length : Int) > 10 by omega)]
    exact no (fun h => h3 h.2)
  rw [decide_eq_false (show ¬ (l.length : Int) > 10 by omega)]
  refine Ev.step (fun k => by rw [impl_IsValidClaims.j0]) (ev_neg (by simp) ?_)
  unfold validClaimsV
  refine scan_all (n := l.length) (fun k i => impl_IsValidClaims.l0 k l l.length i n l) (fun i => claimOk n l i ∧ ∀ j, j < i → ¬ claimTwo l i j) _ ?_ (fun i hi q r ih => ?_) (fun i hi q => ?_)
  · refine Ev.step (fun k => by rw [impl_IsValidClaims.l0]) (ev_neg (by omega) ?_)
    rw [dec_true ⟨h1, h3⟩]
    exact Ev.now _
  · have e1 := wrap_in (x := (i : Int) - 1) (show -9223372036854775808 ≤ (i : Int) - 1 by omega) (show (i : Int) - 1 ≤ 9223372036854775807 by omega)
    refine Ev.step (fun k => by rw [impl_IsValidClaims.l0]) (ev_pos (by omega) (ev_pos (by omega) (ev_pos (by omega) ?_)))
    simp only [impl_InRange.val, Option.bind_some, e1, decide_eq_true_eq]
    refine claimChain (J := fun k b => impl_IsValidClaims.j2 k (i : Int) l l.length i b n l (rd_T104 l i).f0 (rd_T104 l i).f1 (rd_T104 l i).f2 (rd_T104 l i).f3 (rd_T104 l i).f4 (rd_T104 l i).f5) hi (fun _ _ _ _ _ _ => ?_) (fun h => absurd q.1 h)
    exact impl_IsValidClaims.miss n l hl i hi _ _ _ _ q.2 r ih
  · have e1 := wrap_in (x := (i : Int) - 1) (show -9223372036854775808 ≤ (i : Int) - 1 by omega) (show (i : Int) - 1 ≤ 9223372036854775807 by omega)
    refine Ev.step (fun k => by rw [impl_IsValidClaims.l0]) (ev_pos (by omega) (ev_pos (by omega) (ev_pos (by omega) ?_)))
    simp only [impl_InRange.val, Option.bind_some, e1, decide_eq_true_eq]
    refine claimChain (J := fun k b => impl_IsValidClaims.j2 k (i : Int) l l.length i b n l (rd_T104 l i).f0 (rd_T104 l i).f1 (rd_T104 l i).f2 (rd_T104 l i).f3 (rd_T104 l i).f4 (rd_T104 l i).f5) hi (fun a0 a1 a2 a3 a4 a5 => ?_) (fun _ => impl_IsValidClaims.out n l i _ _ _ _ _ _ _)
    refine impl_IsValidClaims.hit n l hl i hi _ _ _ _ ?_
    exact Classical.byContradiction fun no => q ⟨⟨a0, a1, a2, a3, a4, a5⟩, fun j hj t => no ⟨j, hj, t⟩⟩

theorem impl_ObjectTo.ev (n : Int) (l : List S104) (id t : Int) (hl : l.length < 1000000000) : Ev (fun k => impl_ObjectTo.f k n l id t) (objectV n l id t) := by
  unfold impl_ObjectTo.f objectV
  have r := findClaim_range l id
  refine ev_bindc (impl_copyClaims.val n l (by omega)) (Ev.bind (impl_findClaim.ev n l id (by omega)) (Ev.bind (impl_IsValidClaims.ev n l (by omega)) ?_))
  refine ev_ite (fun _ => ev_ite (fun _ => Ev.now _) (fun _ => ?_)) (fun _ => Ev.now _)
  refine ev_pos (by omega) (ev_pos (by omega) ?_)
  refine ev_ite (fun _ => ev_bindc (impl_InRange.val _ _ _) ?_) (fun _ => Ev.now _)
  simp only [decide_eq_true_eq]
  refine ev_ite (fun _ => ?_) (fun _ => Ev.now _)
  exact ev_pos (by first | omega | (simp only; omega)) (Ev.now _)

theorem FnExactObjectTo : Claim := by
  intro n l a1 a2 _ ⟨hl, _⟩ _ _
  refine Ev.rounds (r := true) ?_
  unfold laws_FnExactObjectTo.f
  by_cases hs : (l.length : Int) ≤ 1048576
  · refine ev_bindc (laws_szClaimList.fits n l _ (by omega) hs) (ev_neg (by omega) ?_)
    have hm : (l.map cvClaim).length ≤ 1048576 := by rw [List.length_map]; omega
    have hv := objectV_length n (l.map cvClaim) a1 a2
    have es := spec_ObjectTo.ev n (l.map cvClaim) a1 a2 (by omega)
    have ei := impl_ObjectTo.ev n (l.map cvClaim) a1 a2 (by omega)
    generalize objectV n (l.map cvClaim) a1 a2 = v at hv es ei
    obtain ⟨v1, v2, v3⟩ := v
    simp only at hv
    have hc := mkClaim_list (l.map cvClaim) 1 (by omega) (by omega)
    have hc2 := mkClaim_list v2 1 (by omega) (by omega)
    refine Ev.bind (laws_toClaimList.ev n l (by omega)) (Ev.bind es ?_)
    refine Ev.bind (laws_toClaimList.ev n l (by omega)) (Ev.bind ei ?_)
    refine Ev.bind (laws_eqClaimList.ev v1 v2 (by omega)) (ev_pos rfl (ev_neg (by simp) ?_))
    refine Ev.bind (laws_toClaimList.ev n l (by omega)) (Ev.bind (laws_eqClaimList.ev n (l.map cvClaim) (by omega)) (ev_pos rfl ?_))
    refine Ev.bind (laws_markClaimList.ev n (l.map cvClaim) 1 (by omega)) (ev_neg (by rw [hc]; omega) ?_)
    refine Ev.bind (laws_eqClaimList.ev v1 v2 (by omega)) (ev_pos rfl ?_)
    refine Ev.bind (laws_markClaimList.ev v1 v2 1 (by omega)) (Ev.bind (laws_heldClaimList.ev v1 v2 1 (by omega) (by omega)) ?_)
    refine ev_neg (by rw [hc2]; omega) (ev_pos rfl ?_)
    refine Ev.bind (laws_toClaimList.ev n l (by omega)) (Ev.bind ei ?_)
    refine Ev.bind (laws_eqClaimList.ev v1 v2 (by omega)) (ev_pos rfl (ev_neg (by simp) ?_))
    refine Ev.bind (laws_heldClaimList.ev v1 v2 1 (by omega) (by omega)) ?_
    exact ev_neg (by rw [hc2]; omega) (ev_pos rfl (Ev.now _))
  · exact ev_bindc (laws_szClaimList.big n l _ (by omega) (by omega) (by omega) hl) (ev_pos (by omega) (Ev.now _))

end Go.Proofs.Ytjggdakbphjomaa.Pure
