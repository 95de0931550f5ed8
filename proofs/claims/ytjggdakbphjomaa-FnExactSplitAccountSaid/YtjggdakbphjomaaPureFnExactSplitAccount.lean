/- The program's SplitAccount returns what the reference's returns, for all arguments that the row lets in; no condition besides. Here: the plain side, over the printed functions. -/
import Derived.Test.YtjggdakbphjomaaZFnExactSplitAccountx11
import Derived.Test.YtjggdakbphjomaaKitV
namespace Go.Proofs.Ytjggdakbphjomaa.Pure
open Go.RowKit Go.Proofs.Ytjggdakbphjomaa.ZFnExactSplitAccount Go.Proofs.YtjggdakbphjomaaW.PrintWords Go.Proofs.YtjggdakbphjomaaW.PrintLast Go.Proofs.YtjggdakbphjomaaW.PrintMore Go.Proofs.Ytjggdakbphjomaa.Kit
set_option linter.unusedVariables false
set_option linter.unusedSimpArgs false

/-- What is known of a Credential that came in. -/
def W145 (x : S145) : Prop := ((Lit.int .i64 x.f0).wf = true) ∧ ((Lit.int .i64 x.f1).wf = true) ∧ ((Lit.int .i64 x.f2).wf = true) ∧ (True)
/-- What is to be proved of the printed functions. -/
def Claim : Prop := ∀ (a0_0 : Int), ∀ (a0_1 : Int), ∀ (l0_2 : List (S145)), ∀ (l1 : List Int), ∀ (a2 : Int), ((Lit.int .i64 a0_0).wf = true) → ((Lit.int .i64 a0_1).wf = true) → (l0_2.length ≤ maxLen ∧ ∀ y_ ∈ l0_2, W145 y_) → (l1.length ≤ maxLen ∧ ∀ y_ ∈ l1, (Lit.int .i64 y_).wf = true) → ((Lit.int .i64 a2).wf = true) → ∃ k, laws_FnExactSplitAccount.f k a0_0 a0_1 l0_2 l1 a2 = some true

theorem laws_szCredentialS.fits (l : List S145) (n : Int) (h0 : n ≤ 1048576) (h : (l.length : Int) ≤ n) : laws_szCredentialS.f l n = some (n - l.length) := by
  unfold laws_szCredentialS.f
  rw [wrap_in (by omega) (by omega), if_neg (by omega)]
theorem laws_szCredentialS.big (l : List S145) (n : Int) (h0 : n ≤ 1048576) (h : n < (l.length : Int)) (h1 : 0 ≤ n) (hl : l.length ≤ maxLen) : laws_szCredentialS.f l n = some (-1) := by
  unfold maxLen at hl
  unfold laws_szCredentialS.f
  rw [wrap_in (by omega) (by omega), if_pos (by omega)]

theorem laws_szAccount.fits (a0 : Int) (a1 : Int) (l : List S145) (n : Int) (h0 : n ≤ 1048576) (h : (l.length : Int) ≤ n) : laws_szAccount.f a0 a1 l n = some (n - l.length) := by
  unfold laws_szAccount.f
  rw [laws_szCredentialS.fits l n h0 h]
  simp only [Option.bind_some]
  rw [if_neg (by omega)]
theorem laws_szAccount.big (a0 : Int) (a1 : Int) (l : List S145) (n : Int) (h0 : n ≤ 1048576) (h : n < (l.length : Int)) (h1 : 0 ≤ n) (hl : l.length ≤ maxLen) : laws_szAccount.f a0 a1 l n = some (-1) := by
  unfold laws_szAccount.f
  rw [laws_szCredentialS.big l n h0 h h1 hl]
  rfl

def cvCredential (x : S145) : S123 := ⟨x.f0, x.f1, x.f2, x.f3⟩

theorem laws_toCredentialS.ev (l : List S145) (hl : l.length ≤ 1048576) : Ev (fun k => laws_toCredentialS.f k l) (l.map cvCredential) := by
  unfold laws_toCredentialS.f
  refine ev_pos (by omega) (ev_pos (by omega) ?_)
  refine fill (xs := l) cvCredential (fun k s i => laws_toCredentialS.l0 k l s i) (fun s hs => ?_) (fun i h s hs r ih => ?_) (List.replicate ((l.length : Int)).toNat z123) (by simp)
  · refine Ev.step (fun k => by rw [laws_toCredentialS.l0]) ?_
    exact ev_neg (by omega) (Ev.now _)
  · refine Ev.step (fun k => by rw [laws_toCredentialS.l0]) ?_
    refine ev_pos (by omega) (ev_pos (by omega) (ev_bindc rfl (ev_pos (by omega) ?_)))
    simp only [rd_T145, Int.toNat_natCast, getD_nat h, wrap_succ (show i < 4611686018427387904 by omega)]
    exact ih

theorem laws_toAccount.ev (a0 : Int) (a1 : Int) (l : List S145) (hl : l.length ≤ 1048576) : Ev (fun k => laws_toAccount.f k a0 a1 l) (a0, a1, l.map cvCredential) := by
  unfold laws_toAccount.f
  exact Ev.bind (laws_toCredentialS.ev l (by omega)) (Ev.now _)

theorem laws_eqCredentialS.ev (l : List S123) (hl : l.length < 4611686018427387904) : Ev (fun k => laws_eqCredentialS.f k l l) true := by
  unfold laws_eqCredentialS.f
  refine ev_pos rfl ?_
  refine scan0 (xs := l) (fun k (_ : Unit) i => laws_eqCredentialS.l0 k l l i) (fun _ _ => true) (fun s => ?_) (fun i h s ih => ?_) ()
  · refine Ev.step (fun k => by rw [laws_eqCredentialS.l0]) ?_
    exact ev_neg (by omega) (Ev.now _)
  · refine Ev.step (fun k => by rw [laws_eqCredentialS.l0]) ?_
    refine ev_pos (by omega) (ev_pos (by omega) (ev_pos (by omega) (ev_bindc (a := true) (by simp [laws_eqCredential.f]) (ev_pos rfl ?_))))
    rw [wrap_succ (by omega)]
    exact ih ()

theorem laws_eqAccount.ev (a0 : Int) (a1 : Int) (l : List S123) (hl : l.length < 4611686018427387904) : Ev (fun k => laws_eqAccount.f k a0 a1 l a0 a1 l) true := by
  unfold laws_eqAccount.f
  refine ev_pos rfl ?_
  refine ev_pos rfl ?_
  refine Ev.bind (laws_eqCredentialS.ev l hl) (ev_pos rfl ?_)
  exact Ev.now _

def mkCredential (c : Int) (_ : S123) : Int × S123 := (wrap64 ((wrap64 ((wrap64 ((wrap64 (c + 1)) + 1)) + 1)) + 1), ⟨c, wrap64 (c + 1), wrap64 ((wrap64 (c + 1)) + 1), (Int.tmod (wrap64 ((wrap64 ((wrap64 (c + 1)) + 1)) + 1)) 3 == 0)⟩)
theorem mkCredential_count (c : Int) (x : S123) (h0 : 0 ≤ c) (h : c + (4 : Nat) < 4611686018427387904) : (mkCredential c x).1 = c + (4 : Nat) := by
  simp only [mkCredential]
  unfold wrap64
  omega
theorem mkCredential_list (xs : List S123) (c : Int) (h0 : 0 ≤ c) (h : c + 4 * xs.length < 4611686018427387904) : (markL mkCredential xs c).1 = c + 4 * xs.length := by
  have e : (xs.map (fun _ => 4)).sum = 4 * xs.length := by
    clear h
    induction xs with
    | nil => rfl
    | cons x xs ih => simp only [List.map_cons, List.sum_cons, ih, List.length_cons]; omega
  rw [markL_count mkCredential (fun _ => 4) (fun c x => mkCredential_count c x) xs c h0 (by rw [e]; push_cast; omega), e]
  push_cast
  rfl

theorem laws_markCredentialS.ev (l : List S123) (c : Int) (hl : l.length < 4611686018427387904) : Ev (fun k => laws_markCredentialS.f k l c) (markL mkCredential l c) := by
  unfold laws_markCredentialS.f
  have key : ∀ (d i : Nat) (s : List S123) (c : Int), s.length = l.length → i + d = l.length → Ev (fun k => laws_markCredentialS.l0 k s c (i : Int)) ((markL mkCredential (s.drop i) c).1, s.take i ++ (markL mkCredential (s.drop i) c).2) := by
    intro d
    induction d with
    | zero =>
      intro i s c hs hi
      rw [List.drop_of_length_le (by omega), List.take_of_length_le (by omega)]
      refine Ev.step (fun k => by rw [laws_markCredentialS.l0]) ?_
      refine ev_neg (by omega) ?_
      simpa [markL] using Ev.now (c, s)
    | succ d ih =>
      intro i s c hs hi
      have h : i < s.length := by omega
      have h' := ih (i + 1) (s.set i (mkCredential c s[i]).2) (mkCredential c s[i]).1 (by simp [hs]) (by omega)
      rw [List.drop_eq_getElem_cons h]
      have e1 : (s.set i (mkCredential c s[i]).2).drop (i + 1) = s.drop (i + 1) := by rw [List.drop_set_of_lt (by omega)]
      have e2 : (s.set i (mkCredential c s[i]).2).take (i + 1) = s.take i ++ [(mkCredential c s[i]).2] := by
        rw [List.take_succ_eq_append_getElem (by simpa using h), List.take_set_of_le (by omega)]
        simp
      rw [e1, e2, List.append_assoc] at h'
      refine Ev.step (fun k => by rw [laws_markCredentialS.l0]) ?_
      refine ev_pos (by omega) (ev_pos (by omega) ?_)
      simp only [Option.bind_some, rd_T123, Int.toNat_natCast, getD_set h, List.set_set, wrap_succ (show i < 4611686018427387904 by omega)]
      exact h'
  have := key l.length 0 l c rfl (by omega)
  simpa using this

theorem laws_markAccount.ev (a0 : Int) (a1 : Int) (l : List S123) (c : Int) (hl : l.length < 4611686018427387904) : Ev (fun k => laws_markAccount.f k a0 a1 l c) (markL mkCredential l c) := by
  unfold laws_markAccount.f
  exact Ev.bind (laws_markCredentialS.ev l c hl) (Ev.now _)

theorem laws_heldCredentialS.ev (l : List S123) (c : Int) (hl : l.length < 4611686018427387904) : Ev (fun k => laws_heldCredentialS.f k (markL mkCredential l c).2 c) (markL mkCredential l c).1 := by
  unfold laws_heldCredentialS.f
  have hl' : (markL mkCredential l c).2.length < 4611686018427387904 := by rw [markL_length]; exact hl
  have key : ∀ (ys pre : List S123) (c : Int), pre.length + ys.length < 4611686018427387904 → Ev (fun k => laws_heldCredentialS.l0 k (pre ++ (markL mkCredential ys c).2) c (pre.length : Int)) (markL mkCredential ys c).1 := by
    intro ys
    induction ys with
    | nil =>
      intro pre c _
      refine Ev.step (fun k => by rw [laws_heldCredentialS.l0]) ?_
      refine ev_neg (by simp [markL]) ?_
      exact Ev.now _
    | cons y ys ih =>
      intro pre c hp
      have h' := ih (pre ++ [(mkCredential c y).2]) (mkCredential c y).1 (by simp at hp ⊢; omega)
      simp only [List.length_cons] at hp
      refine Ev.step (fun k => by rw [laws_heldCredentialS.l0]) ?_
      refine ev_pos (by simp [markL]; omega) (ev_pos (by omega) ?_)
      have e : rd_T123 (pre ++ (markL mkCredential (y :: ys) c).2) (pre.length : Int) = (mkCredential c y).2 := by simp [rd_T123, markL]
      rw [e, wrap_succ (by omega)]
      simp only [mkCredential, ne_eq, if_true, bne_self_eq_false, Bool.false_eq_true, if_false]
      simpa [markL, mkCredential] using h'
  have := key l [] c (by simpa using hl)
  simpa using this

theorem laws_heldAccount.ev (a0 : Int) (a1 : Int) (l : List S123) (c : Int) (hl : l.length < 4611686018427387904) (h0 : 0 ≤ (markL mkCredential l c).1) : Ev (fun k => laws_heldAccount.f k a0 a1 (markL mkCredential l c).2 c) (markL mkCredential l c).1 := by
  unfold laws_heldAccount.f
  exact Ev.bind (laws_heldCredentialS.ev l c hl) (ev_neg (by omega) (Ev.now _))

theorem laws_toIntS.ev (l : List Int) (hl : l.length < 35184372088832) : Ev (fun k => laws_toIntS.f k l) l := by
  unfold laws_toIntS.f
  refine ev_pos (by omega) (ev_pos (by omega) ?_)
  refine ev_eq (fill (xs := l) (fun x => x) (fun k s i => laws_toIntS.l0 k l s i) (fun s hs => ?_) (fun i h s hs r ih => ?_) (List.replicate ((l.length : Int)).toNat 0) (by simp)) (by simp)
  · refine Ev.step (fun k => by rw [laws_toIntS.l0]) ?_
    exact ev_neg (by omega) (Ev.now _)
  · refine Ev.step (fun k => by rw [laws_toIntS.l0]) ?_
    refine ev_pos (by omega) (ev_pos (by omega) (ev_pos (by omega) ?_))
    rw [rd_get h, wrap_succ (by omega), Int.toNat_natCast]
    exact ih

theorem laws_eqIntS.ev (l : List Int) (hl : l.length < 4611686018427387904) : Ev (fun k => laws_eqIntS.f k l l) true := by
  unfold laws_eqIntS.f
  refine ev_pos rfl ?_
  refine scan0 (xs := l) (fun k (_ : Unit) i => laws_eqIntS.l0 k l l i) (fun _ _ => true) (fun s => ?_) (fun i h s ih => ?_) ()
  · refine Ev.step (fun k => by rw [laws_eqIntS.l0]) ?_
    exact ev_neg (by omega) (Ev.now _)
  · refine Ev.step (fun k => by rw [laws_eqIntS.l0]) ?_
    refine ev_pos (by omega) (ev_pos (by omega) (ev_pos (by omega) (ev_pos rfl ?_)))
    rw [wrap_succ (by omega)]
    exact ih ()

def mkInt (c : Int) (_ : Int) : Int × Int := (wrap64 (c + 1), c)
theorem mkInt_list (xs : List Int) (c : Int) (h0 : 0 ≤ c) (h : c + xs.length < 4611686018427387904) : (markL mkInt xs c).1 = c + xs.length := by
  have e : (xs.map (fun _ => 1)).sum = xs.length := by
    clear h
    induction xs with
    | nil => rfl
    | cons x xs ih => simp only [List.map_cons, List.sum_cons, ih, List.length_cons]; omega
  rw [markL_count mkInt (fun _ => 1) (fun c x h0 h => by simp only [mkInt]; unfold wrap64; omega) xs c h0 (by rw [e]; omega), e]

theorem laws_markIntS.ev (l : List Int) (c : Int) (hl : l.length < 4611686018427387904) : Ev (fun k => laws_markIntS.f k l c) (markL mkInt l c) := by
  unfold laws_markIntS.f
  have key : ∀ (d i : Nat) (s : List Int) (c : Int), s.length = l.length → i + d = l.length → Ev (fun k => laws_markIntS.l0 k s c (i : Int)) ((markL mkInt (s.drop i) c).1, s.take i ++ (markL mkInt (s.drop i) c).2) := by
    intro d
    induction d with
    | zero =>
      intro i s c hs hi
      rw [List.drop_of_length_le (by omega), List.take_of_length_le (by omega)]
      refine Ev.step (fun k => by rw [laws_markIntS.l0]) ?_
      refine ev_neg (by omega) ?_
      simpa [markL] using Ev.now (c, s)
    | succ d ih =>
      intro i s c hs hi
      have h : i < s.length := by omega
      have h' := ih (i + 1) (s.set i (mkInt c s[i]).2) (mkInt c s[i]).1 (by simp [hs]) (by omega)
      rw [List.drop_eq_getElem_cons h]
      have e1 : (s.set i (mkInt c s[i]).2).drop (i + 1) = s.drop (i + 1) := by rw [List.drop_set_of_lt (by omega)]
      have e2 : (s.set i (mkInt c s[i]).2).take (i + 1) = s.take i ++ [(mkInt c s[i]).2] := by
        rw [List.take_succ_eq_append_getElem (by simpa using h), List.take_set_of_le (by omega)]
        simp
      rw [e1, e2, List.append_assoc] at h'
      refine Ev.step (fun k => by rw [laws_markIntS.l0]) ?_
      refine ev_pos (by omega) (ev_pos (by omega) ?_)
      rw [Int.toNat_natCast, wrap_succ (show i < 4611686018427387904 by omega)]
      exact h'
  have := key l.length 0 l c rfl (by omega)
  simpa using this

noncomputable def hasV (l : List Int) (a : Int) : Bool := dec (∃ i, i < l.length ∧ rd l (i : Int) = a)
theorem hasV_iff (l : List Int) (a : Int) : hasV l a = true ↔ a ∈ l := by
  unfold hasV
  rw [dec_iff]
  constructor
  · rintro ⟨i, h, e⟩
    rw [rd_get h] at e
    exact e ▸ List.getElem_mem h
  · intro h
    obtain ⟨i, hi, e⟩ := List.mem_iff_getElem.1 h
    exact ⟨i, hi, by rw [rd_get hi, e]⟩

def keysV (l : List S123) : List Int := (l.filter (fun x => !x.f3)).map (fun x => x.f1)
theorem keysV_cons (x : S123) (l : List S123) : keysV (x :: l) = if x.f3 = true then keysV l else x.f1 :: keysV l := by
  unfold keysV
  cases h : x.f3 <;> simp [h]
theorem keysV_length (l : List S123) : (keysV l).length ≤ l.length := by
  unfold keysV
  rw [List.length_map]
  exact List.length_filter_le _ _

def publicKeyV (a : Int) : Int := if 1 ≤ a ∧ a ≤ 2147483646 then a * 48271 % 2147483647 else 0
theorem publicKeyV_range (a : Int) : 0 ≤ publicKeyV a ∧ publicKeyV a ≤ 2147483646 := by
  unfold publicKeyV
  split <;> omega

def privateKeyV (a : Int) : Int := if 1 ≤ a ∧ a ≤ 2147483646 then a * 1899818559 % 2147483647 else 0
theorem privateKeyV_range (a : Int) : 0 ≤ privateKeyV a ∧ privateKeyV a ≤ 2147483646 := by
  unfold privateKeyV
  split <;> omega
theorem private_ne (a : Int) : privateKeyV a = 0 ↔ ¬ (1 ≤ a ∧ a ≤ 2147483646) := by
  unfold privateKeyV
  split <;> omega
theorem public_private (a : Int) (h : 1 ≤ a ∧ a ≤ 2147483646) : publicKeyV (privateKeyV a) = a := by
  have h1 : privateKeyV a = a * 1899818559 % 2147483647 := if_pos h
  have h2 : 1 ≤ privateKeyV a ∧ privateKeyV a ≤ 2147483646 := by omega
  unfold publicKeyV
  rw [if_pos h2, h1]
  omega
theorem private_public (a : Int) (h : 1 ≤ a ∧ a ≤ 2147483646) : privateKeyV (publicKeyV a) = a := by
  have h1 : publicKeyV a = a * 48271 % 2147483647 := if_pos h
  have h2 : 1 ≤ publicKeyV a ∧ publicKeyV a ≤ 2147483646 := by omega
  unfold privateKeyV
  rw [if_pos h2, h1]
  omega

def accOk (l : List S123) (i : Nat) : Prop := (0 ≤ (rd_T123 l i).f0 ∧ (rd_T123 l i).f0 ≤ 1000000) ∧ (0 < i → (rd_T123 l ((i : Int) - 1)).f0 < (rd_T123 l i).f0) ∧ privateKeyV (rd_T123 l i).f1 ≠ 0 ∧ (0 ≤ (rd_T123 l i).f2 ∧ (rd_T123 l i).f2 ≤ 1000000) ∧ ∀ j : Nat, j < i → ¬ (rd_T123 l j).f1 = (rd_T123 l i).f1
noncomputable def validAccV (a b : Int) (l : List S123) : Bool := dec ((∀ i, i < l.length → accOk l i) ∧ (0 ≤ a ∧ a ≤ 1000000) ∧ (1 ≤ b ∧ b ≤ 3) ∧ l.length ≤ 8)

def findCredGo (id : Int) : List S123 → Nat → Int
  | [], _ => -1
  | x :: xs, i => if x.f0 = id then (i : Int) else findCredGo id xs (i + 1)
def findCredV (l : List S123) (id : Int) : Int := findCredGo id l 0
theorem findCredGo_neg (id : Int) : ∀ (l : List S123) (i : Nat), findCredGo id l i < 0 ↔ ¬ ∃ c ∈ l, c.f0 = id
  | [], i => by simp [findCredGo]
  | x :: xs, i => by
    simp only [findCredGo]
    by_cases h : x.f0 = id
    · rw [if_pos h]
      exact ⟨fun g => by omega, fun g => absurd ⟨x, by simp, h⟩ g⟩
    · rw [if_neg h, findCredGo_neg id xs (i + 1)]
      refine not_congr ⟨fun ⟨c, m, e⟩ => ⟨c, by simp [m], e⟩, fun ⟨c, m, e⟩ => ?_⟩
      cases List.mem_cons.1 m with
      | inl g => exact absurd (g ▸ e) h
      | inr g => exact ⟨c, g, e⟩

theorem nodup_le : ∀ (a b : List Int), a.Nodup → (∀ x ∈ a, x ∈ b) → a.length ≤ b.length
  | [], b, _, _ => by simp
  | x :: a, b, h, s => by
    have hx : x ∈ b := s x (by simp)
    have hn := List.nodup_cons.1 h
    have := nodup_le a (b.erase x) hn.2 (fun y hy => (List.mem_erase_of_ne (fun (e : y = x) => hn.1 (by rw [← e]; exact hy))).2 (s y (by simp [hy])))
    rw [List.length_erase_of_mem hx] at this
    have := List.length_pos_of_mem hx
    simp only [List.length_cons]
    omega
theorem nodup_eq : ∀ (a b : List Int), a.Nodup → (∀ x ∈ a, x ∈ b) → a.length = b.length → b.Nodup ∧ ∀ x ∈ b, x ∈ a
  | [], b, _, _, e => by
    have : b = [] := List.length_eq_zero_iff.1 (by simpa using e.symm)
    subst this
    simp
  | x :: a, b, h, s, e => by
    have hx : x ∈ b := s x (by simp)
    have hn := List.nodup_cons.1 h
    have hl := List.length_pos_of_mem hx
    have ⟨i1, i2⟩ := nodup_eq a (b.erase x) hn.2 (fun y hy => (List.mem_erase_of_ne (fun (e : y = x) => hn.1 (by rw [← e]; exact hy))).2 (s y (by simp [hy]))) (by rw [List.length_erase_of_mem hx]; simp only [List.length_cons] at e; omega)
    have p := List.perm_cons_erase hx
    refine ⟨p.nodup_iff.2 (List.nodup_cons.2 ⟨fun h => hn.1 (i2 x h), i1⟩), fun y hy => ?_⟩
    by_cases e : y = x
    · simp [e]
    · exact List.mem_cons_of_mem _ (i2 y ((List.mem_erase_of_ne e).2 hy))
theorem take_nodup : ∀ (l : List Int), l.Nodup ↔ ∀ i (h : i < l.length), l[i] ∉ l.take i := by
  intro l
  rw [List.nodup_iff_pairwise_ne, List.pairwise_iff_getElem]
  constructor
  · intro H i h m
    obtain ⟨j, hj, e⟩ := List.getElem_of_mem m
    rw [List.length_take] at hj
    rw [List.getElem_take] at e
    exact H j i (by omega) h (by omega) e
  · intro H i j hi hj lt e
    refine H j hj ?_
    rw [List.mem_take_iff_getElem]
    exact ⟨i, by omega, e⟩

noncomputable def keepL (ids : List Int) (l : List S123) : List S123 := l.filter (fun x => !hasV ids x.f0)
noncomputable def takeL (ids : List Int) (l : List S123) : List S123 := l.filter (fun x => hasV ids x.f0)
theorem keepL_length (ids : List Int) (l : List S123) : (keepL ids l).length ≤ l.length := List.length_filter_le _ _
theorem takeL_length (ids : List Int) (l : List S123) : (takeL ids l).length ≤ l.length := List.length_filter_le _ _
def splitBad (a b : Int) (l : List S123) : Int × Int × List S123 × Int × Int × List S123 × Bool := (a, b, l, 0, 0, [], false)
noncomputable def splitGood (a b : Int) (l : List S123) (ids : List Int) (t : Int) : Int × Int × List S123 × Int × Int × List S123 × Bool := (a, b, keepL ids l, t, b, takeL ids l, true)
noncomputable def splitAccV (a b : Int) (l : List S123) (ids : List Int) (t : Int) : Int × Int × List S123 × Int × Int × List S123 × Bool :=
  if validAccV a b l = true then (if (0 ≤ t ∧ t ≤ 1000000) then (if t = a then splitBad a b l else (if ((takeL ids l).length : Int) = (ids.length : Int) then (if ((keysV (keepL ids l)).length : Int) = 0 then splitBad a b l else (if ((keysV (takeL ids l)).length : Int) = 0 then splitBad a b l else splitGood a b l ids t)) else splitBad a b l)) else splitBad a b l) else splitBad a b l
theorem splitAccV_length (a b : Int) (l : List S123) (ids : List Int) (t : Int) : (splitAccV a b l ids t).2.2.1.length ≤ l.length ∧ (splitAccV a b l ids t).2.2.2.2.2.1.length ≤ l.length := by
  have h1 := keepL_length ids l
  have h2 := takeL_length ids l
  have hb : (splitBad a b l).2.2.1.length ≤ l.length ∧ (splitBad a b l).2.2.2.2.2.1.length ≤ l.length := ⟨Nat.le_refl _, Nat.zero_le _⟩
  have hg : (splitGood a b l ids t).2.2.1.length ≤ l.length ∧ (splitGood a b l ids t).2.2.2.2.2.1.length ≤ l.length := ⟨h1, h2⟩
  unfold splitAccV
  repeat' split
  all_goals first | exact hb | exact hg
def idOk (l : List S123) (ids : List Int) (i : Nat) : Prop := ¬ findCredV l (rd ids (i : Int)) < 0 ∧ ¬ hasV (ids.take i) (rd ids (i : Int)) = true
theorem handles_lt {l : List S123} (h : ∀ i, i < l.length → accOk l i) : ∀ (j i : Nat), i < j → j < l.length → (rd_T123 l i).f0 < (rd_T123 l j).f0 := by
  intro j
  induction j with
  | zero => intro i hi; omega
  | succ j ih =>
    intro i hi hj
    have s := (h (j + 1) hj).2.1 (by omega)
    rw [show ((j + 1 : Nat) : Int) - 1 = (j : Int) by omega] at s
    by_cases e : i = j
    · subst e; exact s
    · have := ih i (by omega) (by omega)
      omega
theorem handles_nodup {l : List S123} (h : ∀ i, i < l.length → accOk l i) : (l.map (fun x => x.f0)).Nodup := by
  rw [List.nodup_iff_pairwise_ne, List.pairwise_iff_getElem]
  intro i j hi hj lt
  rw [List.length_map] at hi hj
  have := handles_lt h j i lt hj
  unfold rd_T123 at this
  rw [getD_get hi, getD_get hj] at this
  simp only [List.getElem_map]
  omega
theorem split_agree {a b : Int} {l : List S123} (ids : List Int) (v : validAccV a b l = true) : (takeL ids l).length = ids.length ↔ ∀ i, i < ids.length → idOk l ids i := by
  have ok := (dec_iff.1 v).1
  have hn : ((takeL ids l).map (fun x => x.f0)).Nodup := (handles_nodup ok).sublist (List.filter_sublist.map _)
  have hs : ∀ x ∈ (takeL ids l).map (fun x => x.f0), x ∈ ids := by
    intro x hx
    obtain ⟨c, hc, e⟩ := List.mem_map.1 hx
    exact e ▸ (hasV_iff ids c.f0).1 (List.mem_filter.1 hc).2
  constructor
  · intro e i hi
    obtain ⟨d, s⟩ := nodup_eq _ ids hn hs (by rw [List.length_map, e])
    refine ⟨fun g => ?_, fun g => ?_⟩
    · obtain ⟨c, hc, ec⟩ := List.mem_map.1 (s ids[i] (List.getElem_mem hi))
      refine (findCredGo_neg _ l 0).1 g ⟨c, (List.mem_filter.1 hc).1, ?_⟩
      rw [rd_get hi]; exact ec
    · rw [rd_get hi] at g
      exact (take_nodup ids).1 d i hi ((hasV_iff _ _).1 g)
  · intro H
    have d : ids.Nodup := (take_nodup ids).2 fun i hi m => (H i hi).2 ((hasV_iff _ _).2 (by rw [rd_get hi]; exact m))
    have s : ∀ x ∈ ids, x ∈ (takeL ids l).map (fun x => x.f0) := by
      intro x hx
      obtain ⟨i, hi, e⟩ := List.getElem_of_mem hx
      have f := (H i hi).1
      rw [rd_get hi, e] at f
      have ⟨c, hc, ec⟩ := Classical.not_not.1 (fun g => f ((findCredGo_neg x l 0).2 g))
      exact List.mem_map.2 ⟨c, List.mem_filter.2 ⟨hc, (hasV_iff ids c.f0).2 (ec ▸ hx)⟩, ec⟩
    have l1 := nodup_le _ _ hn hs
    have l2 := nodup_le _ _ d s
    rw [List.length_map] at l1 l2
    omega

theorem spec_l19Has.ev (l : List Int) (a : Int) (hl : l.length < 4611686018427387904) : Ev (fun k => spec_l19Has.f k l a) (hasV l a) := by
  unfold spec_l19Has.f hasV
  refine scan_any (n := l.length) (fun k i => spec_l19Has.l0 k l a i) (fun i => rd l (i : Int) = a) ?_ (fun i hi q r ih => ?_) (fun i hi q => ?_)
  · refine Ev.step (fun k => by rw [spec_l19Has.l0]) ?_
    exact ev_neg (by omega) (Ev.now _)
  · refine Ev.step (fun k => by rw [spec_l19Has.l0]) ?_
    rw [wrap_succ (by omega)]
    exact ev_pos (by omega) (ev_pos (by omega) (ev_neg q ih))
  · refine Ev.step (fun k => by rw [spec_l19Has.l0]) ?_
    exact ev_pos (by omega) (ev_pos (by omega) (ev_pos q (Ev.now _)))

theorem spec_l1In.val (a b c : Int) : spec_l1In.f a b c = some (decide (b ≤ a ∧ a ≤ c)) := by
  unfold spec_l1In.f
  by_cases h : a ≥ b
  · rw [if_pos h]; simp only [ge_iff_le] at h; simp [h]
  · rw [if_neg h]; simp only [ge_iff_le] at h; simp [h]

theorem spec_l6Power.ev : Ev (fun k => spec_l6Power.f k 48271 2147483645) 1899818559 :=
  Ev.of (k := 40) (fun k => spec_l6Power.mono _ _ k) (by decide +kernel)

theorem spec_IsValidKey.val (a : Int) : spec_IsValidKey.f a = some (decide (1 ≤ a ∧ a ≤ 2147483646)) := by
  unfold spec_IsValidKey.f
  rw [spec_l1In.val]
  rfl

theorem spec_PublicKey.val (a : Int) : spec_PublicKey.f a = some (publicKeyV a) := by
  unfold spec_PublicKey.f publicKeyV
  rw [spec_IsValidKey.val]
  simp only [Option.bind_some, decide_eq_true_eq]
  by_cases h : 1 ≤ a ∧ a ≤ 2147483646
  · rw [if_pos h, if_pos h, wrap_in (by omega) (by omega), Int.tmod_eq_emod_of_nonneg (by omega)]
  · rw [if_neg h, if_neg h]

theorem spec_PrivateKey.ev (a : Int) : Ev (fun k => spec_PrivateKey.f k a) (privateKeyV a) := by
  unfold spec_PrivateKey.f
  rw [spec_l1In.val]
  simp only [Option.bind_some, decide_eq_true_eq]
  by_cases h : 1 ≤ a ∧ a ≤ 2147483646
  · have e : privateKeyV a = a * 1899818559 % 2147483647 := if_pos h
    refine ev_pos h (Ev.bind spec_l6Power.ev ?_)
    rw [wrap_in (by omega) (by omega), Int.tmod_eq_emod_of_nonneg (by omega), ← e]
    refine ev_bindc (spec_PublicKey.val _) (ev_pos (public_private a h) (Ev.now _))
  · refine ev_neg h ?_
    rw [(private_ne a).2 h]
    exact Ev.now _

theorem spec_IsValidAccount.inner (a b : Int) (l : List S123) (hl : l.length < 4611686018427387904) (i : Nat) (hi : i < l.length) (c0 c1 c2 : Int) (c3 : Bool) : ∀ j, j < i → ¬ (rd_T123 l j).f1 = c1 → ∀ r, Ev (fun k => spec_IsValidAccount.l1 k (i : Int) ((j + 1 : Nat) : Int) a b l c0 c1 c2 c3) r → Ev (fun k => spec_IsValidAccount.l1 k (i : Int) (j : Int) a b l c0 c1 c2 c3) r := by
  intro j hj q r ih
  refine Ev.step (fun k => by rw [spec_IsValidAccount.l1]) ?_
  rw [wrap_succ (i := j) (by omega)]
  exact ev_pos (by omega) (ev_pos (by omega) (ev_pos (by omega) (ev_neg q ih)))
theorem spec_IsValidAccount.miss (a b : Int) (l : List S123) (hl : l.length < 4611686018427387904) (i : Nat) (hi : i < l.length) (c0 c1 c2 : Int) (c3 : Bool) (h : ∀ j : Nat, j < i → ¬ (rd_T123 l j).f1 = c1) (r : Bool) (ih : Ev (fun k => spec_IsValidAccount.l0 k ((i + 1 : Nat) : Int) a b l) r) : Ev (fun k => spec_IsValidAccount.j1 k (i : Int) false a b l c0 c1 c2 c3) r := by
  refine Ev.step (fun k => by rw [spec_IsValidAccount.j1]) (ev_neg (by simp) ?_)
  refine scan_miss (n := i) (fun k j => spec_IsValidAccount.l1 k (i : Int) j a b l c0 c1 c2 c3) (fun j => (rd_T123 l j).f1 = c1) r ?_ (spec_IsValidAccount.inner a b l hl i hi c0 c1 c2 c3) h
  refine Ev.step (fun k => by rw [spec_IsValidAccount.l1]) ?_
  rw [wrap_succ (i := i) (by omega)]
  exact ev_neg (by omega) ih
theorem spec_IsValidAccount.hit (a b : Int) (l : List S123) (hl : l.length < 4611686018427387904) (i : Nat) (hi : i < l.length) (c0 c1 c2 : Int) (c3 : Bool) (h : ∃ j : Nat, j < i ∧ (rd_T123 l j).f1 = c1) : Ev (fun k => spec_IsValidAccount.j1 k (i : Int) false a b l c0 c1 c2 c3) false := by
  refine Ev.step (fun k => by rw [spec_IsValidAccount.j1]) (ev_neg (by simp) ?_)
  refine scan_hit (n := i) (fun k j => spec_IsValidAccount.l1 k (i : Int) j a b l c0 c1 c2 c3) (fun j => (rd_T123 l j).f1 = c1) false (spec_IsValidAccount.inner a b l hl i hi c0 c1 c2 c3) (fun j hj e => ?_) h
  refine Ev.step (fun k => by rw [spec_IsValidAccount.l1]) ?_
  exact ev_pos (by omega) (ev_pos (by omega) (ev_pos (by omega) (ev_pos e (Ev.now _))))
theorem spec_IsValidAccount.out (a b : Int) (l : List S123) (i : Int) (c0 c1 c2 : Int) (c3 : Bool) : Ev (fun k => spec_IsValidAccount.j1 k i true a b l c0 c1 c2 c3) false := by
  refine Ev.step (fun k => by rw [spec_IsValidAccount.j1]) ?_
  exact ev_pos rfl (Ev.now _)
theorem spec_IsValidAccount.ev (a b : Int) (l : List S123) (hl : l.length < 4611686018427387904) : Ev (fun k => spec_IsValidAccount.f k a b l) (validAccV a b l) := by
  unfold spec_IsValidAccount.f validAccV
  refine scan_all (n := l.length) (fun k i => spec_IsValidAccount.l0 k i a b l) (accOk l) _ ?_ (fun i hi q r ih => ?_) (fun i hi q => ?_)
  · refine Ev.step (fun k => by rw [spec_IsValidAccount.l0]) (ev_neg (by omega) (ev_bindc (spec_l1In.val _ _ _) ?_))
    by_cases h1 : 0 ≤ a ∧ a ≤ 1000000
    · refine ev_pos (by simpa using h1) (ev_bindc (spec_l1In.val _ _ _) ?_)
      by_cases h2 : 1 ≤ b ∧ b ≤ 3
      · refine ev_pos (by simpa using h2) (ev_const ?_)
        rw [dec_decide, dec_eq (P := (l.length : Int) ≤ 8) (Q := (0 ≤ a ∧ a ≤ 1000000) ∧ (1 ≤ b ∧ b ≤ 3) ∧ l.length ≤ 8) (by omega)]
      · rw [dec_false (fun h => h2 h.2.1)]
        exact ev_neg (by simpa using h2) (Ev.now _)
    · rw [dec_false (fun h => h1 h.1)]
      exact ev_neg (by simpa using h1) (Ev.now _)
  · obtain ⟨q0, q1, q2, q3, q4⟩ := q
    refine Ev.step (fun k => by rw [spec_IsValidAccount.l0]) (ev_pos (by omega) (ev_pos (by omega) (ev_bindc (spec_l1In.val _ _ _) ?_)))
    refine ev_pos (by simpa using q0) ?_
    simp only [spec_l1In.val, Option.bind_some, wrap_in (x := (i : Int) - 1) (show -9223372036854775808 ≤ (i : Int) - 1 by omega) (show (i : Int) - 1 ≤ 9223372036854775807 by omega), decide_eq_true q3, Bool.not_true]
    have go := spec_IsValidAccount.miss a b l hl i hi (rd_T123 l i).f0 (rd_T123 l i).f1 (rd_T123 l i).f2 (rd_T123 l i).f3 q4 r ih
    by_cases h : (i : Int) > 0
    · exact ev_pos h (ev_pos (by omega) (ev_pos (by omega) (ev_neg (by have := q1 (by omega); omega) (Ev.bind (spec_PrivateKey.ev _) (ev_neg q2 go)))))
    · exact ev_neg h (Ev.bind (spec_PrivateKey.ev _) (ev_neg q2 go))
  · have out := spec_IsValidAccount.out a b l i (rd_T123 l i).f0 (rd_T123 l i).f1 (rd_T123 l i).f2 (rd_T123 l i).f3
    refine Ev.step (fun k => by rw [spec_IsValidAccount.l0]) (ev_pos (by omega) (ev_pos (by omega) (ev_bindc (spec_l1In.val _ _ _) ?_)))
    by_cases q0 : 0 ≤ (rd_T123 l i).f0 ∧ (rd_T123 l i).f0 ≤ 1000000
    · refine ev_pos (by simpa using q0) ?_
      simp only [spec_l1In.val, Option.bind_some, wrap_in (x := (i : Int) - 1) (show -9223372036854775808 ≤ (i : Int) - 1 by omega) (show (i : Int) - 1 ≤ 9223372036854775807 by omega)]
      have last : (0 < i → (rd_T123 l ((i : Int) - 1)).f0 < (rd_T123 l i).f0) → privateKeyV (rd_T123 l i).f1 ≠ 0 → Ev (fun k => spec_IsValidAccount.j1 k (i : Int) (!decide (0 ≤ (rd_T123 l i).f2 ∧ (rd_T123 l i).f2 ≤ 1000000)) a b l (rd_T123 l i).f0 (rd_T123 l i).f1 (rd_T123 l i).f2 (rd_T123 l i).f3) false := by
        intro q1 q2
        by_cases q3 : 0 ≤ (rd_T123 l i).f2 ∧ (rd_T123 l i).f2 ≤ 1000000
        · rw [decide_eq_true q3, Bool.not_true]
          refine spec_IsValidAccount.hit a b l hl i hi _ _ _ _ ?_
          refine Classical.byContradiction fun no => q ⟨q0, q1, q2, q3, fun j hj e => no ⟨j, hj, e⟩⟩
        · rw [decide_eq_false q3, Bool.not_false]
          exact out
      refine ev_both (fun h => ?_) (fun h => ?_)
      · refine ev_pos (by omega) (ev_pos (by omega) (ev_both (fun _ => out) (fun h1 => ?_)))
        exact Ev.bind (spec_PrivateKey.ev _) (ev_both (fun _ => out) (fun h2 => last (fun _ => by omega) h2))
      · exact Ev.bind (spec_PrivateKey.ev _) (ev_both (fun _ => out) (fun h2 => last (fun _ => by omega) h2))
    · exact ev_neg (by simpa using q0) out

theorem spec_l14Copy.val (a b : Int) (l : List S123) (hl : l.length < 4398046511104) : spec_l14Copy.f a b l = some (a, b, l) := by
  unfold spec_l14Copy.f
  simp only [Option.bind_some, List.nil_append, List.length_nil]
  rw [if_pos (by omega)]

theorem spec_KeysOf.ev (a b : Int) (l : List S123) (hl : l.length < 17592186044000) : Ev (fun k => spec_KeysOf.f k a b l) (keysV l) := by
  unfold spec_KeysOf.f
  have key : ∀ (d i : Nat), i + d = l.length → ∀ s : List Int, s.length ≤ i → Ev (fun k => spec_KeysOf.l0 k s (i : Int) a b l) (s ++ keysV (l.drop i)) := by
    intro d
    induction d with
    | zero =>
      intro i hi s hs
      rw [List.drop_of_length_le (by omega)]
      refine Ev.step (fun k => by rw [spec_KeysOf.l0]) ?_
      refine ev_neg (by omega) ?_
      simpa [keysV] using Ev.now s
    | succ d ih =>
      intro i hi s hs
      have h : i < l.length := by omega
      rw [List.drop_eq_getElem_cons h, keysV_cons]
      refine Ev.step (fun k => by rw [spec_KeysOf.l0]) ?_
      refine ev_pos (by omega) (ev_pos (by omega) ?_)
      rw [rd_T123, getD_get h, wrap_succ (by omega)]
      by_cases h1 : l[i].f3 = true
      · refine ev_pos h1 ?_
        rw [if_pos h1]
        exact ih (i + 1) (by omega) s (by omega)
      · refine ev_neg h1 (ev_pos (by omega) ?_)
        rw [if_neg h1]
        have := ih (i + 1) (by omega) (s ++ [l[i].f1]) (by simp; omega)
        simpa using this
  simpa using key l.length 0 (by omega) [] (by simp)

theorem spec_SplitAccount.ev (a b : Int) (l : List S123) (ids : List Int) (t : Int) (hl : l.length < 1000000000) (hd : ids.length < 1000000000) : Ev (fun k => spec_SplitAccount.f k a b l ids t) (splitAccV a b l ids t) := by
  unfold spec_SplitAccount.f
  have bad : Ev (fun k => (spec_l14Copy.f a b l).bind fun bt => some (bt.1, bt.2.1, bt.2.2, (0 : Int), (0 : Int), ([] : List S123), false)) (splitBad a b l) := ev_bindc (spec_l14Copy.val a b l (by omega)) (Ev.now _)
  have hk := keepL_length ids l
  have ht := takeL_length ids l
  have key : ∀ (d i : Nat), i + d = l.length → ∀ A B : List S123, A.length ≤ i → B.length ≤ i → A ++ keepL ids (l.drop i) = keepL ids l → B ++ takeL ids (l.drop i) = takeL ids l → Ev (fun k => spec_SplitAccount.l0 k ids t (i : Int) a b l a b A t b B) (splitAccV a b l ids t) := by
    intro d
    induction d with
    | zero =>
      intro i hi A B hA hB eA eB
      rw [List.drop_of_length_le (by omega)] at eA eB
      simp only [keepL, takeL, List.filter_nil, List.append_nil] at eA eB
      rw [← keepL] at eA
      rw [← takeL] at eB
      subst eA eB
      refine Ev.step (fun k => by rw [spec_SplitAccount.l0]) ?_
      refine ev_neg (by omega) ?_
      unfold splitAccV
      refine Ev.bind (spec_IsValidAccount.ev a b l (by omega)) (ev_ite (fun _ => ?_) (fun _ => bad))
      refine ev_bindc (spec_l1In.val _ _ _) ?_
      simp only [decide_eq_true_eq]
      refine ev_ite (fun _ => ev_ite (fun _ => bad) (fun _ => ev_ite (fun _ => ?_) (fun _ => bad))) (fun _ => bad)
      refine Ev.bind (spec_KeysOf.ev _ _ _ (by omega)) (ev_ite (fun _ => bad) (fun _ => ?_))
      exact Ev.bind (spec_KeysOf.ev _ _ _ (by omega)) (ev_ite (fun _ => bad) (fun _ => Ev.now _))
    | succ d ih =>
      intro i hi A B hA hB eA eB
      have hx : i < l.length := by omega
      rw [List.drop_eq_getElem_cons hx] at eA eB
      refine Ev.step (fun k => by rw [spec_SplitAccount.l0]) ?_
      refine ev_pos (by omega) (ev_pos (by omega) ?_)
      rw [rd_T123, getD_get hx, wrap_succ (by omega)]
      refine Ev.bind (spec_l19Has.ev ids _ (by omega)) (ev_both (fun h => ?_) (fun h => ?_))
      · refine ev_pos (by omega) (ih (i + 1) (by omega) A (B ++ [l[i]]) (by omega) (by simp only [List.length_append, List.length_cons, List.length_nil]; omega) ?_ ?_)
        · rw [← eA]; unfold keepL; rw [List.filter_cons_of_neg (by simp [h])]
        · rw [← eB]; unfold takeL; rw [List.filter_cons_of_pos (by simp [h])]; simp
      · refine ev_pos (by omega) (ih (i + 1) (by omega) (A ++ [l[i]]) B (by simp only [List.length_append, List.length_cons, List.length_nil]; omega) (by omega) ?_ ?_)
        · rw [← eA]; unfold keepL; rw [List.filter_cons_of_pos (by simp [h])]; simp
        · rw [← eB]; unfold takeL; rw [List.filter_cons_of_neg (by simp [h])]
  exact key l.length 0 (by omega) [] [] (by simp) (by simp) (by simp) (by simp)

theorem impl_has.ev (l : List Int) (a : Int) (hl : l.length < 4611686018427387904) : Ev (fun k => impl_has.f k l a) (hasV l a) := by
  unfold impl_has.f hasV
  refine scan_any (n := l.length) (fun k i => impl_has.l0 k a l l.length i) (fun i => rd l (i : Int) = a) ?_ (fun i hi q r ih => ?_) (fun i hi q => ?_)
  · refine Ev.step (fun k => by rw [impl_has.l0]) ?_
    exact ev_neg (by omega) (Ev.now _)
  · refine Ev.step (fun k => by rw [impl_has.l0]) ?_
    rw [wrap_succ (by omega)]
    exact ev_pos (by omega) (ev_pos (by omega) (ev_pos (by omega) (ev_neg q ih)))
  · refine Ev.step (fun k => by rw [impl_has.l0]) ?_
    exact ev_pos (by omega) (ev_pos (by omega) (ev_pos (by omega) (ev_pos q (Ev.now _))))

theorem impl_InRange.val (a b c : Int) : impl_InRange.f a b c = some (decide (b ≤ a ∧ a ≤ c)) := by
  unfold impl_InRange.f
  by_cases h : b ≤ a
  · rw [if_pos h]; simp [h]
  · rw [if_neg h]; simp [h]

theorem impl_power.evM : Ev (fun k => impl_power.f k 48271 2147483645 2147483647) 1899818559 :=
  Ev.of (k := 40) (fun k => impl_power.mono _ _ _ k) (by decide +kernel)

theorem impl_IsValidKey.val (a : Int) : impl_IsValidKey.f a = some (decide (1 ≤ a ∧ a ≤ 2147483646)) := by
  unfold impl_IsValidKey.f
  rw [impl_InRange.val]
  rfl

theorem impl_PrivateKey.ev (a : Int) : Ev (fun k => impl_PrivateKey.f k a) (privateKeyV a) := by
  unfold impl_PrivateKey.f
  rw [impl_IsValidKey.val]
  simp only [Option.bind_some, decide_eq_true_eq]
  by_cases h : 1 ≤ a ∧ a ≤ 2147483646
  · have e : privateKeyV a = a * 1899818559 % 2147483647 := if_pos h
    refine ev_pos h (Ev.bind impl_power.evM ?_)
    rw [wrap_in (by omega) (by omega), Int.tmod_eq_emod_of_nonneg (by omega), ← e]
    exact Ev.now _
  · refine ev_neg h ?_
    rw [(private_ne a).2 h]
    exact Ev.now _

theorem impl_IsValidAccount.inner (a b : Int) (l : List S123) (hl : l.length < 4611686018427387904) (i : Nat) (hi : i < l.length) (c0 c1 c2 : Int) (c3 : Bool) : ∀ j, j < i → ¬ (rd_T123 l j).f1 = c1 → ∀ r, Ev (fun k => impl_IsValidAccount.l1 k l l.length i (l.take i) (l.take i).length ((j + 1 : Nat) : Int) a b l c0 c1 c2 c3) r → Ev (fun k => impl_IsValidAccount.l1 k l l.length i (l.take i) (l.take i).length (j : Int) a b l c0 c1 c2 c3) r := by
  intro j hj q r ih
  have e : rd_T123 (l.take i) (j : Int) = rd_T123 l (j : Int) := by
    unfold rd_T123
    rw [getD_get (by rw [List.length_take]; omega), getD_get (by omega), List.getElem_take]
  have n : (l.take i).length = i := by rw [List.length_take]; omega
  refine Ev.step (fun k => by rw [impl_IsValidAccount.l1]) ?_
  rw [wrap_succ (i := j) (by omega), e]
  exact ev_pos (by omega) (ev_pos (by omega) (ev_pos (by omega) (ev_neg q ih)))
theorem impl_IsValidAccount.miss (a b : Int) (l : List S123) (hl : l.length < 4611686018427387904) (i : Nat) (hi : i < l.length) (c0 c1 c2 : Int) (c3 : Bool) (h : ∀ j : Nat, j < i → ¬ (rd_T123 l j).f1 = c1) (r : Bool) (ih : Ev (fun k => impl_IsValidAccount.l0 k l l.length ((i + 1 : Nat) : Int) a b l) r) : Ev (fun k => impl_IsValidAccount.j2 k (i : Int) l l.length i false a b l c0 c1 c2 c3) r := by
  have n : (l.take i).length = i := by rw [List.length_take]; omega
  refine Ev.step (fun k => by rw [impl_IsValidAccount.j2]) (ev_neg (by simp) (ev_pos (by omega) (ev_pos (by omega) ?_)))
  simp only [Int.toNat_natCast, Option.bind_some]
  refine scan_miss (n := i) (fun k j => impl_IsValidAccount.l1 k l l.length i (l.take i) (l.take i).length j a b l c0 c1 c2 c3) (fun j => (rd_T123 l j).f1 = c1) r ?_ (impl_IsValidAccount.inner a b l hl i hi c0 c1 c2 c3) h
  refine Ev.step (fun k => by rw [impl_IsValidAccount.l1]) ?_
  rw [wrap_succ (i := i) (by omega)]
  exact ev_neg (by omega) ih
theorem impl_IsValidAccount.hit (a b : Int) (l : List S123) (hl : l.length < 4611686018427387904) (i : Nat) (hi : i < l.length) (c0 c1 c2 : Int) (c3 : Bool) (h : ∃ j : Nat, j < i ∧ (rd_T123 l j).f1 = c1) : Ev (fun k => impl_IsValidAccount.j2 k (i : Int) l l.length i false a b l c0 c1 c2 c3) false := by
  have n : (l.take i).length = i := by rw [List.length_take]; omega
  refine Ev.step (fun k => by rw [impl_IsValidAccount.j2]) (ev_neg (by simp) (ev_pos (by omega) (ev_pos (by omega) ?_)))
  simp only [Int.toNat_natCast, Option.bind_some]
  refine scan_hit (n := i) (fun k j => impl_IsValidAccount.l1 k l l.length i (l.take i) (l.take i).length j a b l c0 c1 c2 c3) (fun j => (rd_T123 l j).f1 = c1) false (impl_IsValidAccount.inner a b l hl i hi c0 c1 c2 c3) (fun j hj e => ?_) h
  have e2 : rd_T123 (l.take i) (j : Int) = rd_T123 l (j : Int) := by
    unfold rd_T123
    rw [getD_get (by rw [List.length_take]; omega), getD_get (by omega), List.getElem_take]
  refine Ev.step (fun k => by rw [impl_IsValidAccount.l1]) ?_
  rw [e2]
  exact ev_pos (by omega) (ev_pos (by omega) (ev_pos (by omega) (ev_pos e (Ev.now _))))
theorem impl_IsValidAccount.out (a b : Int) (l : List S123) (i n : Int) (c0 c1 c2 : Int) (c3 : Bool) : Ev (fun k => impl_IsValidAccount.j2 k i l n i true a b l c0 c1 c2 c3) false := by
  refine Ev.step (fun k => by rw [impl_IsValidAccount.j2]) ?_
  exact ev_pos rfl (Ev.now _)
theorem impl_IsValidAccount.ev (a b : Int) (l : List S123) (hl : l.length < 4611686018427387904) : Ev (fun k => impl_IsValidAccount.f k a b l) (validAccV a b l) := by
  unfold impl_IsValidAccount.f
  have no : ¬ ((0 ≤ a ∧ a ≤ 1000000) ∧ (1 ≤ b ∧ b ≤ 3) ∧ l.length ≤ 8) → Ev (fun k => impl_IsValidAccount.j0 k true a b l) (validAccV a b l) := by
    intro h
    unfold validAccV
    rw [dec_false (fun g => h g.2)]
    refine Ev.step (fun k => by rw [impl_IsValidAccount.j0]) ?_
    exact ev_pos rfl (Ev.now _)
  refine ev_bindc (impl_InRange.val _ _ _) ?_
  by_cases h1 : 0 ≤ a ∧ a ≤ 1000000
  rotate_left
  · exact ev_neg (by simpa using h1) (no (fun h => h1 h.1))
  refine ev_pos (by simpa using h1) (ev_bindc (impl_InRange.val _ _ _) ?_)
  by_cases h2 : 1 ≤ b ∧ b ≤ 3
  rotate_left
  · exact ev_neg (by simpa using h2) (no (fun h => h2 h.2.1))
  refine ev_pos (by simpa using h2) ?_
  by_cases h3 : l.length ≤ 8
  rotate_left
  · rw [decide_eq_true (show (l.length : Int) > 8 by omega)]
    exact no (fun h => h3 h.2.2)
  rw [decide_eq_false (show ¬ (l.length : Int) > 8 by omega)]
  refine Ev.step (fun k => by rw [impl_IsValidAccount.j0]) (ev_neg (by simp) ?_)
  unfold validAccV
  refine scan_all (n := l.length) (fun k i => impl_IsValidAccount.l0 k l l.length i a b l) (accOk l) _ ?_ (fun i hi q r ih => ?_) (fun i hi q => ?_)
  · refine Ev.step (fun k => by rw [impl_IsValidAccount.l0]) (ev_neg (by omega) ?_)
    rw [dec_true ⟨h1, h2, h3⟩]
    exact Ev.now _
  · obtain ⟨q0, q1, q2, q3, q4⟩ := q
    refine Ev.step (fun k => by rw [impl_IsValidAccount.l0]) (ev_pos (by omega) (ev_pos (by omega) (ev_pos (by omega) (ev_bindc (impl_InRange.val _ _ _) ?_))))
    refine ev_pos (by simpa using q0) ?_
    simp only [impl_InRange.val, Option.bind_some, wrap_in (x := (i : Int) - 1) (show -9223372036854775808 ≤ (i : Int) - 1 by omega) (show (i : Int) - 1 ≤ 9223372036854775807 by omega), decide_eq_true q3, Bool.not_true]
    have go := impl_IsValidAccount.miss a b l hl i hi (rd_T123 l i).f0 (rd_T123 l i).f1 (rd_T123 l i).f2 (rd_T123 l i).f3 q4 r ih
    by_cases h : (i : Int) > 0
    · exact ev_pos h (ev_pos (by omega) (ev_pos (by omega) (ev_neg (by have := q1 (by omega); omega) (Ev.bind (impl_PrivateKey.ev _) (ev_neg q2 go)))))
    · exact ev_neg h (Ev.bind (impl_PrivateKey.ev _) (ev_neg q2 go))
  · have out := impl_IsValidAccount.out a b l i l.length (rd_T123 l i).f0 (rd_T123 l i).f1 (rd_T123 l i).f2 (rd_T123 l i).f3
    refine Ev.step (fun k => by rw [impl_IsValidAccount.l0]) (ev_pos (by omega) (ev_pos (by omega) (ev_pos (by omega) (ev_bindc (impl_InRange.val _ _ _) ?_))))
    by_cases q0 : 0 ≤ (rd_T123 l i).f0 ∧ (rd_T123 l i).f0 ≤ 1000000
    · refine ev_pos (by simpa using q0) ?_
      simp only [impl_InRange.val, Option.bind_some, wrap_in (x := (i : Int) - 1) (show -9223372036854775808 ≤ (i : Int) - 1 by omega) (show (i : Int) - 1 ≤ 9223372036854775807 by omega)]
      have last : (0 < i → (rd_T123 l ((i : Int) - 1)).f0 < (rd_T123 l i).f0) → privateKeyV (rd_T123 l i).f1 ≠ 0 → Ev (fun k => impl_IsValidAccount.j2 k (i : Int) l l.length i (!decide (0 ≤ (rd_T123 l i).f2 ∧ (rd_T123 l i).f2 ≤ 1000000)) a b l (rd_T123 l i).f0 (rd_T123 l i).f1 (rd_T123 l i).f2 (rd_T123 l i).f3) false := by
        intro q1 q2
        by_cases q3 : 0 ≤ (rd_T123 l i).f2 ∧ (rd_T123 l i).f2 ≤ 1000000
        · rw [decide_eq_true q3, Bool.not_true]
          refine impl_IsValidAccount.hit a b l hl i hi _ _ _ _ ?_
          refine Classical.byContradiction fun no => q ⟨q0, q1, q2, q3, fun j hj e => no ⟨j, hj, e⟩⟩
        · rw [decide_eq_false q3, Bool.not_false]
          exact out
      refine ev_both (fun h => ?_) (fun h => ?_)
      · refine ev_pos (by omega) (ev_pos (by omega) (ev_both (fun _ => out) (fun h1 => ?_)))
        exact Ev.bind (impl_PrivateKey.ev _) (ev_both (fun _ => out) (fun h2 => last (fun _ => by omega) h2))
      · exact Ev.bind (impl_PrivateKey.ev _) (ev_both (fun _ => out) (fun h2 => last (fun _ => by omega) h2))
    · exact ev_neg (by simpa using q0) out

theorem impl_copyAccount.val (a b : Int) (l : List S123) (hl : l.length < 4398046511104) : impl_copyAccount.f a b l = some (a, b, l) := by
  unfold impl_copyAccount.f
  simp only [Option.bind_some, List.nil_append, List.length_nil]
  rw [if_pos (by omega)]

theorem impl_KeysOf.ev (a b : Int) (l : List S123) (hl : l.length < 17592186044000) : Ev (fun k => impl_KeysOf.f k a b l) (keysV l) := by
  unfold impl_KeysOf.f
  have key : ∀ (d i : Nat), i + d = l.length → ∀ s : List Int, s.length ≤ i → Ev (fun k => impl_KeysOf.l0 k s l l.length (i : Int)) (s ++ keysV (l.drop i)) := by
    intro d
    induction d with
    | zero =>
      intro i hi s hs
      rw [List.drop_of_length_le (by omega)]
      refine Ev.step (fun k => by rw [impl_KeysOf.l0]) ?_
      refine ev_neg (by omega) ?_
      simpa [keysV] using Ev.now s
    | succ d ih =>
      intro i hi s hs
      have h : i < l.length := by omega
      rw [List.drop_eq_getElem_cons h, keysV_cons]
      refine Ev.step (fun k => by rw [impl_KeysOf.l0]) ?_
      refine ev_pos (by omega) (ev_pos (by omega) (ev_pos (by omega) ?_))
      rw [rd_T123, getD_get h, wrap_succ (by omega)]
      by_cases h1 : l[i].f3 = true
      · refine ev_pos h1 ?_
        rw [if_pos h1]
        exact ih (i + 1) (by omega) s (by omega)
      · refine ev_neg h1 (ev_pos (by omega) ?_)
        rw [if_neg h1]
        have := ih (i + 1) (by omega) (s ++ [l[i].f1]) (by simp; omega)
        simpa using this
  simpa using key l.length 0 (by omega) [] (by simp)

theorem impl_live.ev (a b : Int) (l : List S123) (hl : l.length < 17592186044000) : Ev (fun k => impl_live.f k a b l) (decide (((keysV l).length : Int) > 0)) := by
  unfold impl_live.f
  exact Ev.bind (impl_KeysOf.ev a b l hl) (Ev.now _)

theorem impl_FindCredential.ev (a b : Int) (l : List S123) (id : Int) (hl : l.length < 4611686018427387904) : Ev (fun k => impl_FindCredential.f k a b l id) (findCredV l id) := by
  unfold impl_FindCredential.f findCredV
  have key : ∀ (d i : Nat), i + d = l.length → Ev (fun k => impl_FindCredential.l0 k id l l.length (i : Int)) (findCredGo id (l.drop i) i) := by
    intro d
    induction d with
    | zero =>
      intro i hi
      rw [List.drop_of_length_le (by omega)]
      refine Ev.step (fun k => by rw [impl_FindCredential.l0]) ?_
      exact ev_neg (by omega) (Ev.now _)
    | succ d ih =>
      intro i hi
      have h : i < l.length := by omega
      rw [List.drop_eq_getElem_cons h]
      refine Ev.step (fun k => by rw [impl_FindCredential.l0]) ?_
      refine ev_pos (by omega) (ev_pos (by omega) (ev_pos (by omega) ?_))
      rw [rd_T123, getD_get h, wrap_succ (by omega)]
      exact ev_ite (fun _ => Ev.now _) (fun _ => ih (i + 1) (by omega))
  simpa using key l.length 0 (by omega)

theorem impl_SplitAccount.ev (a b : Int) (l : List S123) (ids : List Int) (t : Int) (hl : l.length < 1000000000) (hd : ids.length < 1000000000) : Ev (fun k => impl_SplitAccount.f k a b l ids t) (splitAccV a b l ids t) := by
  unfold impl_SplitAccount.f
  have bad : Ev (fun k => (impl_copyAccount.f a b l).bind fun bt => some (bt.1, bt.2.1, bt.2.2, (0 : Int), (0 : Int), ([] : List S123), false)) (splitBad a b l) := ev_bindc (impl_copyAccount.val a b l (by omega)) (Ev.now _)
  have out : Ev (fun k => impl_SplitAccount.j0 k ids t true a b l) (splitBad a b l) := by
    refine Ev.step (fun k => by rw [impl_SplitAccount.j0]) ?_
    exact ev_pos rfl bad
  have hk := keepL_length ids l
  have ht := takeL_length ids l
  have key : ∀ (d i : Nat), i + d = l.length → ∀ A B : List S123, A.length ≤ i → B.length ≤ i → A ++ keepL ids (l.drop i) = keepL ids l → B ++ takeL ids (l.drop i) = takeL ids l → Ev (fun k => impl_SplitAccount.l1 k ids l l.length (i : Int) a b l a b A t b B) (if ((keysV (keepL ids l)).length : Int) = 0 then splitBad a b l else (if ((keysV (takeL ids l)).length : Int) = 0 then splitBad a b l else splitGood a b l ids t)) := by
    intro d
    induction d with
    | zero =>
      intro i hi A B hA hB eA eB
      rw [List.drop_of_length_le (by omega)] at eA eB
      simp only [keepL, takeL, List.filter_nil, List.append_nil] at eA eB
      rw [← keepL] at eA
      rw [← takeL] at eB
      subst eA eB
      refine Ev.step (fun k => by rw [impl_SplitAccount.l1]) ?_
      refine ev_neg (by omega) ?_
      refine Ev.bind (impl_live.ev a b (keepL ids l) (by omega)) ?_
      by_cases h1 : ((keysV (keepL ids l)).length : Int) = 0
      · rw [if_pos h1]
        exact ev_neg (by simp [h1]) bad
      · rw [if_neg h1]
        refine ev_pos (by rw [decide_eq_true_eq]; omega) (Ev.bind (impl_live.ev t b (takeL ids l) (by omega)) ?_)
        by_cases h2 : ((keysV (takeL ids l)).length : Int) = 0
        · rw [if_pos h2]
          exact ev_neg (by simp [h2]) bad
        · rw [if_neg h2]
          exact ev_pos (by rw [decide_eq_true_eq]; omega) (Ev.now _)
    | succ d ih =>
      intro i hi A B hA hB eA eB
      have hx : i < l.length := by omega
      rw [List.drop_eq_getElem_cons hx] at eA eB
      refine Ev.step (fun k => by rw [impl_SplitAccount.l1]) ?_
      refine ev_pos (by omega) (ev_pos (by omega) (ev_pos (by omega) ?_))
      rw [rd_T123, getD_get hx, wrap_succ (by omega)]
      refine Ev.bind (impl_has.ev ids _ (by omega)) (ev_both (fun h => ?_) (fun h => ?_))
      · refine ev_pos (by omega) (ih (i + 1) (by omega) A (B ++ [l[i]]) (by omega) (by simp only [List.length_append, List.length_cons, List.length_nil]; omega) ?_ ?_)
        · rw [← eA]; unfold keepL; rw [List.filter_cons_of_neg (by simp [h])]
        · rw [← eB]; unfold takeL; rw [List.filter_cons_of_pos (by simp [h])]; simp
      · refine ev_pos (by omega) (ih (i + 1) (by omega) (A ++ [l[i]]) B (by simp only [List.length_append, List.length_cons, List.length_nil]; omega) (by omega) ?_ ?_)
        · rw [← eA]; unfold keepL; rw [List.filter_cons_of_pos (by simp [h])]; simp
        · rw [← eB]; unfold takeL; rw [List.filter_cons_of_neg (by simp [h])]
  have go : ∀ i, i < ids.length → ¬ ¬ idOk l ids i → ∀ r, Ev (fun k => impl_SplitAccount.l0 k ids t ids (ids.length : Int) ((i + 1 : Nat) : Int) a b l) r → Ev (fun k => impl_SplitAccount.l0 k ids t ids (ids.length : Int) (i : Int) a b l) r := by
    intro i hi q r ih
    have ⟨q0, q1⟩ := Classical.not_not.1 q
    have n : (ids.take i).length = i := by rw [List.length_take]; omega
    refine Ev.step (fun k => by rw [impl_SplitAccount.l0]) ?_
    rw [wrap_succ (i := i) (by omega)]
    refine ev_pos (by omega) (ev_pos (by omega) (ev_pos (by omega) (Ev.bind (impl_FindCredential.ev a b l _ (by omega)) (ev_neg q0 (ev_pos (by omega) ?_)))))
    exact Ev.bind (impl_has.ev (ids.take i) _ (by omega)) (ev_neg q1 ih)
  have stop : ∀ i, i < ids.length → ¬ idOk l ids i → Ev (fun k => impl_SplitAccount.l0 k ids t ids (ids.length : Int) (i : Int) a b l) (splitBad a b l) := by
    intro i hi q
    have n : (ids.take i).length = i := by rw [List.length_take]; omega
    refine Ev.step (fun k => by rw [impl_SplitAccount.l0]) ?_
    refine ev_pos (by omega) (ev_pos (by omega) (ev_pos (by omega) (Ev.bind (impl_FindCredential.ev a b l _ (by omega)) (ev_both (fun _ => bad) (fun h0 => ev_pos (by omega) ?_)))))
    exact Ev.bind (impl_has.ev (ids.take i) _ (by omega)) (ev_both (fun _ => bad) (fun h1 => absurd ⟨h0, h1⟩ q))
  unfold splitAccV
  refine Ev.bind (impl_IsValidAccount.ev a b l (by omega)) (ev_ite (fun v => ?_) (fun _ => out))
  refine ev_bindc (impl_InRange.val _ _ _) ?_
  simp only [decide_eq_true_eq]
  refine ev_ite (fun _ => ?_) (fun _ => out)
  by_cases h1 : t = a
  · rw [if_pos h1, show (t == a) = true by simpa using h1]
    exact out
  rw [if_neg h1, show (t == a) = false by simpa using h1]
  refine Ev.step (fun k => by rw [impl_SplitAccount.j0]) (ev_neg (by simp) ?_)
  by_cases h2 : ∀ i, i < ids.length → idOk l ids i
  · have e := (split_agree (b := b) ids v).2 h2
    rw [if_pos (by omega)]
    refine scan_miss (n := ids.length) (fun k i => impl_SplitAccount.l0 k ids t ids (ids.length : Int) i a b l) (fun i => ¬ idOk l ids i) _ ?_ go (fun i hi q => q (h2 i hi))
    refine Ev.step (fun k => by rw [impl_SplitAccount.l0]) ?_
    exact ev_neg (by omega) (key l.length 0 (by omega) [] [] (by simp) (by simp) (by simp) (by simp))
  · rw [if_neg (fun e => h2 ((split_agree (b := b) ids v).1 (by omega)))]
    exact scan_hit (n := ids.length) (fun k i => impl_SplitAccount.l0 k ids t ids (ids.length : Int) i a b l) (fun i => ¬ idOk l ids i) _ go stop (Classical.byContradiction fun no => h2 fun i hi => Classical.byContradiction fun q => no ⟨i, hi, q⟩)

theorem FnExactSplitAccount : Claim := by
  intro a b l ids t _ _ ⟨hl, _⟩ _ _
  refine Ev.rounds (r := true) ?_
  unfold laws_FnExactSplitAccount.f
  refine ev_both (fun _ => Ev.now _) (fun hids => ?_)
  by_cases hs : (l.length : Int) ≤ 1048576
  · refine ev_bindc (laws_szAccount.fits a b l _ (by omega) hs) (ev_neg (by omega) ?_)
    have hm : (l.map cvCredential).length ≤ 1048576 := by rw [List.length_map]; omega
    have hv := splitAccV_length a b (l.map cvCredential) ids t
    have es := spec_SplitAccount.ev a b (l.map cvCredential) ids t (by omega) (by omega)
    have ei := impl_SplitAccount.ev a b (l.map cvCredential) ids t (by omega) (by omega)
    generalize splitAccV a b (l.map cvCredential) ids t = v at hv es ei
    obtain ⟨v0, v1, v2, v3, v4, v5, v6⟩ := v
    simp only at hv
    have hc := mkCredential_list (l.map cvCredential) 1 (by omega) (by omega)
    have hi := mkInt_list ids (markL mkCredential (l.map cvCredential) 1).1 (by rw [hc]; omega) (by rw [hc]; omega)
    have hc2 := mkCredential_list v2 1 (by omega) (by omega)
    have hc3 := mkCredential_list v5 (markL mkCredential v2 1).1 (by omega) (by omega)
    have tA := laws_toAccount.ev a b l (by omega)
    have toI := laws_toIntS.ev ids (by omega)
    have e1 := laws_eqAccount.ev v0 v1 v2 (by omega)
    have e2 := laws_eqAccount.ev v3 v4 v5 (by omega)
    have h1 := laws_heldAccount.ev v0 v1 v2 1 (by omega) (by omega)
    have h2 := laws_heldAccount.ev v3 v4 v5 (markL mkCredential v2 1).1 (by omega) (by omega)
    refine Ev.bind tA (Ev.bind toI (Ev.bind es ?_))
    refine Ev.bind tA (Ev.bind toI (Ev.bind ei ?_))
    refine Ev.bind e1 (ev_pos rfl (Ev.bind e2 (ev_pos rfl (ev_neg (by simp) ?_))))
    refine Ev.bind tA (Ev.bind (laws_eqAccount.ev a b (l.map cvCredential) (by omega)) (ev_pos rfl ?_))
    refine Ev.bind toI (Ev.bind (laws_eqIntS.ev ids (by omega)) (ev_pos rfl ?_))
    refine Ev.bind (laws_markAccount.ev a b (l.map cvCredential) 1 (by omega)) (Ev.bind (laws_markIntS.ev ids _ (by omega)) (ev_neg (by rw [hi, hc]; omega) ?_))
    refine Ev.bind e1 (ev_pos rfl (Ev.bind e2 (ev_pos rfl ?_)))
    refine Ev.bind (laws_markAccount.ev v0 v1 v2 1 (by omega)) (Ev.bind (laws_markAccount.ev v3 v4 v5 _ (by omega)) ?_)
    refine Ev.bind h1 (ev_neg (by omega) (Ev.bind h2 (ev_neg (by omega) (ev_pos rfl ?_))))
    refine Ev.bind tA (Ev.bind toI (Ev.bind ei ?_))
    refine Ev.bind e1 (ev_pos rfl (Ev.bind e2 (ev_pos rfl (ev_neg (by simp) ?_))))
    exact Ev.bind h1 (ev_neg (by omega) (Ev.bind h2 (ev_neg (by omega) (ev_pos rfl (Ev.now _)))))
  · exact ev_bindc (laws_szAccount.big a b l _ (by omega) (by omega) (by omega) hl) (ev_pos (by omega) (Ev.now _))

end Go.Proofs.Ytjggdakbphjomaa.Pure
