/- The program's TransferAccount returns what the reference's returns, for all arguments that the row lets in; no condition besides. Here: the plain side, over the printed functions. -/
import Derived.Test.YtjggdakbphjomaaZFnExactTransferAccountx9
import Derived.Test.YtjggdakbphjomaaKitV
namespace Go.Proofs.Ytjggdakbphjomaa.Pure
open Go.RowKit Go.Proofs.Ytjggdakbphjomaa.ZFnExactTransferAccount Go.Proofs.YtjggdakbphjomaaW.PrintWords Go.Proofs.YtjggdakbphjomaaW.PrintLast Go.Proofs.YtjggdakbphjomaaW.PrintMore Go.Proofs.Ytjggdakbphjomaa.Kit
set_option linter.unusedVariables false
set_option linter.unusedSimpArgs false

/-- What is known of a Credential that came in. -/
def W145 (x : S145) : Prop := ((Lit.int .i64 x.f0).wf = true) ∧ ((Lit.int .i64 x.f1).wf = true) ∧ ((Lit.int .i64 x.f2).wf = true) ∧ (True)
/-- What is to be proved of the printed functions. -/
def Claim : Prop := ∀ (a0_0 : Int), ∀ (a0_1 : Int), ∀ (l0_2 : List (S145)), ∀ (a1 : Int), ∀ (a2 : Int), ((Lit.int .i64 a0_0).wf = true) → ((Lit.int .i64 a0_1).wf = true) → (l0_2.length ≤ maxLen ∧ ∀ y_ ∈ l0_2, W145 y_) → ((Lit.int .i64 a1).wf = true) → ((Lit.int .i64 a2).wf = true) → ∃ k, laws_FnExactTransferAccount.f k a0_0 a0_1 l0_2 a1 a2 = some true

theorem laws_szCredentialS.fits (l : List S145) (n : Int) (h0 : n ≤ 1048576) (h : (l.length : Int) ≤ n) : laws_szCredentialS.f l n = some (n - l.length) := by
  unfold laws_szCredentialS.f
  rw [wrap_in (by omega) (by omega), if_neg (by omega)]
theorem laws_szCredentialS.big (l : List S145) (n : Int) (h0 : n ≤ 1048576) (h : n < (l.length : Int)) (h1 : 0 ≤ n) (hl : l.length ≤ maxLen) : laws_szCredentialS.f l n = some (-1) := by
  unfold maxLen at hl
  unfold laws_szCredentialS.f
  rw [wrap_in (by omega) (by omega), if_pos (by omega)]

theorem laws_szAccount.fits (a0 : Int) (a1 : Int) (l : List S145) (n : Int) (h0 : n ≤ 1048576) (h : (l.length : Int) ≤ n) : laws_szAccount.f a0 a1 l n = some (n - l.length) := by
  unfold laws_szAccount.f
  rw [laws_szCredentialS.fits l n h0 h]
  simp only [Option.bind_some]
  rw [if_neg (by omega)]
theorem laws_szAccount.big (a0 : Int) (a1 : Int) (l : List S145) (n : Int) (h0 : n ≤ 1048576) (h : n < (l.length : Int)) (h1 : 0 ≤ n) (hl : l.length ≤ maxLen) : laws_szAccount.f a0 a1 l n = some (-1) := by
  unfold laws_szAccount.f
  rw [laws_szCredentialS.big l n h0 h h1 hl]
  rfl

def cvCredential (x : S145) : S123 := ⟨x.f0, x.f1, x.f2, x.f3⟩

theorem laws_toCredentialS.ev (l : List S145) (hl : l.length ≤ 1048576) : Ev (fun k => laws_toCredentialS.f k l) (l.map cvCredential) := by
  unfold laws_toCredentialS.f
  refine ev_pos (by omega) (ev_pos (by omega) ?_)
  refine fill (xs := l) cvCredential (fun k s i => laws_toCredentialS.l0 k l s i) (fun s hs => ?_) (fun i h s hs r ih => ?_) (List.replicate ((l.length : Int)).toNat z123) (by simp)
  · refine Ev.step (fun k => by rw [laws_toCredentialS.l0]) ?_
    exact ev_neg (by omega) (Ev.now _)
  · refine Ev.step (fun k => by rw [laws_toCredentialS.l0]) ?_
    refine ev_pos (by omega) (ev_pos (by omega) (ev_bindc rfl (ev_pos (by omega) ?_)))
    simp only [rd_T145, Int.toNat_natCast, getD_nat h, wrap_succ (show i < 4611686018427387904 by omega)]
    exact ih

theorem laws_toAccount.ev (a0 : Int) (a1 : Int) (l : List S145) (hl : l.length ≤ 1048576) : Ev (fun k => laws_toAccount.f k a0 a1 l) (a0, a1, l.map cvCredential) := by
  unfold laws_toAccount.f
  exact Ev.bind (laws_toCredentialS.ev l (by omega)) (Ev.now _)

theorem laws_eqCredentialS.ev (l : List S123) (hl : l.length < 4611686018427387904) : Ev (fun k => laws_eqCredentialS.f k l l) true := by
  unfold laws_eqCredentialS.f
  refine ev_pos rfl ?_
  refine scan0 (xs := l) (fun k (_ : Unit) i => laws_eqCredentialS.l0 k l l i) (fun _ _ => true) (fun s => ?_) (fun i h s ih => ?_) ()
  · refine Ev.step (fun k => by rw [laws_eqCredentialS.l0]) ?_
    exact ev_neg (by omega) (Ev.now _)
  · refine Ev.step (fun k => by rw [laws_eqCredentialS.l0]) ?_
    refine ev_pos (by omega) (ev_pos (by omega) (ev_pos (by omega) (ev_bindc (a := true) (by simp [laws_eqCredential.f]) (ev_pos rfl ?_))))
    rw [wrap_succ (by omega)]
    exact ih ()

theorem laws_eqAccount.ev (a0 : Int) (a1 : Int) (l : List S123) (hl : l.length < 4611686018427387904) : Ev (fun k => laws_eqAccount.f k a0 a1 l a0 a1 l) true := by
  unfold laws_eqAccount.f
  refine ev_pos rfl ?_
  refine ev_pos rfl ?_
  refine Ev.bind (laws_eqCredentialS.ev l hl) (ev_pos rfl ?_)
  exact Ev.now _

def mkCredential (c : Int) (_ : S123) : Int × S123 := (wrap64 ((wrap64 ((wrap64 ((wrap64 (c + 1)) + 1)) + 1)) + 1), ⟨c, wrap64 (c + 1), wrap64 ((wrap64 (c + 1)) + 1), (Int.tmod (wrap64 ((wrap64 ((wrap64 (c + 1)) + 1)) + 1)) 3 == 0)⟩)
theorem mkCredential_count (c : Int) (x : S123) (h0 : 0 ≤ c) (h : c + (4 : Nat) < 4611686018427387904) : (mkCredential c x).1 = c + (4 : Nat) := by
  simp only [mkCredential]
  unfold wrap64
  omega
theorem mkCredential_list (xs : List S123) (c : Int) (h0 : 0 ≤ c) (h : c + 4 * xs.length < 4611686018427387904) : (markL mkCredential xs c).1 = c + 4 * xs.length := by
  have e : (xs.map (fun _ => 4)).sum = 4 * xs.length := by
    clear h
    induction xs with
    | nil => rfl
    | cons x xs ih => simp only [List.map_cons, List.sum_cons, ih, List.length_cons]; omega
  rw [markL_count mkCredential (fun _ => 4) (fun c x => mkCredential_count c x) xs c h0 (by rw [e]; push_cast; omega), e]
  push_cast
  rfl

theorem laws_markCredentialS.ev (l : List S123) (c : Int) (hl : l.length < 4611686018427387904) : Ev (fun k => laws_markCredentialS.f k l c) (markL mkCredential l c) := by
  unfold laws_markCredentialS.f
  have key : ∀ (d i : Nat) (s : List S123) (c : Int), s.length = l.length → i + d = l.length → Ev (fun k => laws_markCredentialS.l0 k s c (i : Int)) ((markL mkCredential (s.drop i) c).1, s.take i ++ (markL mkCredential (s.drop i) c).2) := by
    intro d
    induction d with
    | zero =>
      intro i s c hs hi
      rw [List.drop_of_length_le (by omega), List.take_of_length_le (by omega)]
      refine Ev.step (fun k => by rw [laws_markCredentialS.l0]) ?_
      refine ev_neg (by omega) ?_
      simpa [markL] using Ev.now (c, s)
    | succ d ih =>
      intro i s c hs hi
      have h : i < s.length := by omega
      have h' := ih (i + 1) (s.set i (mkCredential c s[i]).2) (mkCredential c s[i]).1 (by simp [hs]) (by omega)
      rw [List.drop_eq_getElem_cons h]
      have e1 : (s.set i (mkCredential c s[i]).2).drop (i + 1) = s.drop (i + 1) := by rw [List.drop_set_of_lt (by omega)]
      have e2 : (s.set i (mkCredential c s[i]).2).take (i + 1) = s.take i ++ [(mkCredential c s[i]).2] := by
        rw [List.take_succ_eq_append_getElem (by simpa using h), List.take_set_of_le (by omega)]
        simp
      rw [e1, e2, List.append_assoc] at h'
      refine Ev.step (fun k => by rw [laws_markCredentialS.l0]) ?_
      refine ev_pos (by omega) (ev_pos (by omega) ?_)
      simp only [Option.bind_some, rd_T123, Int.toNat_natCast, getD_set h, List.set_set, wrap_succ (show i < 4611686018427387904 by omega)]
      exact h'
  have := key l.length 0 l c rfl (by omega)
  simpa using this

theorem laws_markAccount.ev (a0 : Int) (a1 : Int) (l : List S123) (c : Int) (hl : l.length < 4611686018427387904) : Ev (fun k => laws_markAccount.f k a0 a1 l c) (markL mkCredential l c) := by
  unfold laws_markAccount.f
  exact Ev.bind (laws_markCredentialS.ev l c hl) (Ev.now _)

theorem laws_heldCredentialS.ev (l : List S123) (c : Int) (hl : l.length < 4611686018427387904) : Ev (fun k => laws_heldCredentialS.f k (markL mkCredential l c).2 c) (markL mkCredential l c).1 := by
  unfold laws_heldCredentialS.f
  have hl' : (markL mkCredential l c).2.length < 4611686018427387904 := by rw [markL_length]; exact hl
  have key : ∀ (ys pre : List S123) (c : Int), pre.length + ys.length < 4611686018427387904 → Ev (fun k => laws_heldCredentialS.l0 k (pre ++ (markL mkCredential ys c).2) c (pre.length : Int)) (markL mkCredential ys c).1 := by
    intro ys
    induction ys with
    | nil =>
      intro pre c _
      refine Ev.step (fun k => by rw [laws_heldCredentialS.l0]) ?_
      refine ev_neg (by simp [markL]) ?_
      exact Ev.now _
    | cons y ys ih =>
      intro pre c hp
      have h' := ih (pre ++ [(mkCredential c y).2]) (mkCredential c y).1 (by simp at hp ⊢; omega)
      simp only [List.length_cons] at hp
      refine Ev.step (fun k => by rw [laws_heldCredentialS.l0]) ?_
      refine ev_pos (by simp [markL]; omega) (ev_pos (by omega) ?_)
      have e : rd_T123 (pre ++ (markL mkCredential (y :: ys) c).2) (pre.length : Int) = (mkCredential c y).2 := by simp [rd_T123, markL]
      rw [e, wrap_succ (by omega)]
      simp only [mkCredential, ne_eq, if_true, bne_self_eq_false, Bool.false_eq_true, if_false]
      simpa [markL, mkCredential] using h'
  have := key l [] c (by simpa using hl)
  simpa using this

theorem laws_heldAccount.ev (a0 : Int) (a1 : Int) (l : List S123) (c : Int) (hl : l.length < 4611686018427387904) (h0 : 0 ≤ (markL mkCredential l c).1) : Ev (fun k => laws_heldAccount.f k a0 a1 (markL mkCredential l c).2 c) (markL mkCredential l c).1 := by
  unfold laws_heldAccount.f
  exact Ev.bind (laws_heldCredentialS.ev l c hl) (ev_neg (by omega) (Ev.now _))

def publicKeyV (a : Int) : Int := if 1 ≤ a ∧ a ≤ 2147483646 then a * 48271 % 2147483647 else 0
theorem publicKeyV_range (a : Int) : 0 ≤ publicKeyV a ∧ publicKeyV a ≤ 2147483646 := by
  unfold publicKeyV
  split <;> omega

def privateKeyV (a : Int) : Int := if 1 ≤ a ∧ a ≤ 2147483646 then a * 1899818559 % 2147483647 else 0
theorem privateKeyV_range (a : Int) : 0 ≤ privateKeyV a ∧ privateKeyV a ≤ 2147483646 := by
  unfold privateKeyV
  split <;> omega
theorem private_ne (a : Int) : privateKeyV a = 0 ↔ ¬ (1 ≤ a ∧ a ≤ 2147483646) := by
  unfold privateKeyV
  split <;> omega
theorem public_private (a : Int) (h : 1 ≤ a ∧ a ≤ 2147483646) : publicKeyV (privateKeyV a) = a := by
  have h1 : privateKeyV a = a * 1899818559 % 2147483647 := if_pos h
  have h2 : 1 ≤ privateKeyV a ∧ privateKeyV a ≤ 2147483646 := by omega
  unfold publicKeyV
  rw [if_pos h2, h1]
  omega
theorem private_public (a : Int) (h : 1 ≤ a ∧ a ≤ 2147483646) : privateKeyV (publicKeyV a) = a := by
  have h1 : publicKeyV a = a * 48271 % 2147483647 := if_pos h
  have h2 : 1 ≤ publicKeyV a ∧ publicKeyV a ≤ 2147483646 := by omega
  unfold privateKeyV
  rw [if_pos h2, h1]
  omega

def accOk (l : List S123) (i : Nat) : Prop := (0 ≤ (rd_T123 l i).f0 ∧ (rd_T123 l i).f0 ≤ 1000000) ∧ (0 < i → (rd_T123 l ((i : Int) - 1)).f0 < (rd_T123 l i).f0) ∧ privateKeyV (rd_T123 l i).f1 ≠ 0 ∧ (0 ≤ (rd_T123 l i).f2 ∧ (rd_T123 l i).f2 ≤ 1000000) ∧ ∀ j : Nat, j < i → ¬ (rd_T123 l j).f1 = (rd_T123 l i).f1
noncomputable def validAccV (a b : Int) (l : List S123) : Bool := dec ((∀ i, i < l.length → accOk l i) ∧ (0 ≤ a ∧ a ≤ 1000000) ∧ (1 ≤ b ∧ b ≤ 3) ∧ l.length ≤ 8)

def posGo (h : Int) : List S123 → Nat → Nat
  | [], i => i
  | x :: xs, i => if x.f0 < h then posGo h xs (i + 1) else i
theorem posGo_range (h : Int) : ∀ (l : List S123) (i : Nat), i ≤ posGo h l i ∧ posGo h l i ≤ i + l.length
  | [], i => ⟨Nat.le_refl _, Nat.le_refl _⟩
  | x :: xs, i => by
    simp only [posGo, List.length_cons]
    split
    · have := posGo_range h xs (i + 1); omega
    · omega
/-- The list with a credential put in where it belongs. -/
def putIn (l : List S123) (h p : Int) : List S123 := (l.take (posGo h l 0) ++ [⟨h, p, 0, false⟩]) ++ l.drop (posGo h l 0)
theorem putIn_length (l : List S123) (h p : Int) : (putIn l h p).length = l.length + 1 := by
  unfold putIn
  have := posGo_range h l 0
  simp only [List.length_append, List.length_take, List.length_drop, List.length_cons, List.length_nil]
  omega
noncomputable def addV (a b : Int) (l : List S123) (h p : Int) : Int × Int × List S123 × Bool :=
  if validAccV a b l = true then (if validAccV a b (putIn l h p) = true then (a, b, putIn l h p, true) else (a, b, l, false)) else (a, b, l, false)
theorem addV_length (a b : Int) (l : List S123) (h p : Int) : (addV a b l h p).2.2.1.length ≤ l.length + 1 := by
  unfold addV
  have := putIn_length l h p
  split
  · split
    · simp only; omega
    · simp
  · simp

def cutAll (l : List S123) : List S123 := l.map (fun x => ⟨x.f0, x.f1, x.f2, true⟩)
noncomputable def transferV (a b : Int) (l : List S123) (h p : Int) : Int × Int × List S123 × Bool :=
  if validAccV a b l = true then (if (addV a b (cutAll l) h p).2.2.2 = true then ((addV a b (cutAll l) h p).1, (addV a b (cutAll l) h p).2.1, (addV a b (cutAll l) h p).2.2.1, true) else (a, b, l, false)) else (a, b, l, false)
theorem transferV_length (a b : Int) (l : List S123) (h p : Int) : (transferV a b l h p).2.2.1.length ≤ l.length + 1 := by
  unfold transferV
  have := addV_length a b (cutAll l) h p
  have e : (cutAll l).length = l.length := by simp [cutAll]
  split
  · split
    · simp only; omega
    · simp
  · simp

theorem spec_l1In.val (a b c : Int) : spec_l1In.f a b c = some (decide (b ≤ a ∧ a ≤ c)) := by
  unfold spec_l1In.f
  by_cases h : a ≥ b
  · rw [if_pos h]; simp only [ge_iff_le] at h; simp [h]
  · rw [if_neg h]; simp only [ge_iff_le] at h; simp [h]

theorem spec_l6Power.ev : Ev (fun k => spec_l6Power.f k 48271 2147483645) 1899818559 :=
  Ev.of (k := 40) (fun k => spec_l6Power.mono _ _ k) (by decide +kernel)

theorem spec_IsValidKey.val (a : Int) : spec_IsValidKey.f a = some (decide (1 ≤ a ∧ a ≤ 2147483646)) := by
  unfold spec_IsValidKey.f
  rw [spec_l1In.val]
  rfl

theorem spec_PublicKey.val (a : Int) : spec_PublicKey.f a = some (publicKeyV a) := by
  unfold spec_PublicKey.f publicKeyV
  rw [spec_IsValidKey.val]
  simp only [Option.bind_some, decide_eq_true_eq]
  by_cases h : 1 ≤ a ∧ a ≤ 2147483646
  · rw [if_pos h, if_pos h, wrap_in (by omega) (by omega), Int.tmod_eq_emod_of_nonneg (by omega)]
  · rw [if_neg h, if_neg h]

theorem spec_PrivateKey.ev (a : Int) : Ev (fun k => spec_PrivateKey.f k a) (privateKeyV a) := by
  unfold spec_PrivateKey.f
  rw [spec_l1In.val]
  simp only [Option.bind_some, decide_eq_true_eq]
  by_cases h : 1 ≤ a ∧ a ≤ 2147483646
  · have e : privateKeyV a = a * 1899818559 % 2147483647 := if_pos h
    refine ev_pos h (Ev.bind spec_l6Power.ev ?_)
    rw [wrap_in (by omega) (by omega), Int.tmod_eq_emod_of_nonneg (by omega), ← e]
    refine ev_bindc (spec_PublicKey.val _) (ev_pos (public_private a h) (Ev.now _))
  · refine ev_neg h ?_
    rw [(private_ne a).2 h]
    exact Ev.now _

theorem spec_IsValidAccount.inner (a b : Int) (l : List S123) (hl : l.length < 4611686018427387904) (i : Nat) (hi : i < l.length) (c0 c1 c2 : Int) (c3 : Bool) : ∀ j, j < i → ¬ (rd_T123 l j).f1 = c1 → ∀ r, Ev (fun k => spec_IsValidAccount.l1 k (i : Int) ((j + 1 : Nat) : Int) a b l c0 c1 c2 c3) r → Ev (fun k => spec_IsValidAccount.l1 k (i : Int) (j : Int) a b l c0 c1 c2 c3) r := by
  intro j hj q r ih
  refine Ev.step (fun k => by rw [spec_IsValidAccount.l1]) ?_
  rw [wrap_succ (i := j) (by omega)]
  exact ev_pos (by omega) (ev_pos (by omega) (ev_pos (by omega) (ev_neg q ih)))
theorem spec_IsValidAccount.miss (a b : Int) (l : List S123) (hl : l.length < 4611686018427387904) (i : Nat) (hi : i < l.length) (c0 c1 c2 : Int) (c3 : Bool) (h : ∀ j : Nat, j < i → ¬ (rd_T123 l j).f1 = c1) (r : Bool) (ih : Ev (fun k => spec_IsValidAccount.l0 k ((i + 1 : Nat) : Int) a b l) r) : Ev (fun k => spec_IsValidAccount.j1 k (i : Int) false a b l c0 c1 c2 c3) r := by
  refine Ev.step (fun k => by rw [spec_IsValidAccount.j1]) (ev_neg (by simp) ?_)
  refine scan_miss (n := i) (fun k j => spec_IsValidAccount.l1 k (i : Int) j a b l c0 c1 c2 c3) (fun j => (rd_T123 l j).f1 = c1) r ?_ (spec_IsValidAccount.inner a b l hl i hi c0 c1 c2 c3) h
  refine Ev.step (fun k => by rw [spec_IsValidAccount.l1]) ?_
  rw [wrap_succ (i := i) (by omega)]
  exact ev_neg (by omega) ih
theorem spec_IsValidAccount.hit (a b : Int) (l : List S123) (hl : l.length < 4611686018427387904) (i : Nat) (hi : i < l.length) (c0 c1 c2 : Int) (c3 : Bool) (h : ∃ j : Nat, j < i ∧ (rd_T123 l j).f1 = c1) : Ev (fun k => spec_IsValidAccount.j1 k (i : Int) false a b l c0 c1 c2 c3) false := by
  refine Ev.step (fun k => by rw [spec_IsValidAccount.j1]) (ev_neg (by simp) ?_)
  refine scan_hit (n := i) (fun k j => spec_IsValidAccount.l1 k (i : Int) j a b l c0 c1 c2 c3) (fun j => (rd_T123 l j).f1 = c1) false (spec_IsValidAccount.inner a b l hl i hi c0 c1 c2 c3) (fun j hj e => ?_) h
  refine Ev.step (fun k => by rw [spec_IsValidAccount.l1]) ?_
  exact ev_pos (by omega) (ev_pos (by omega) (ev_pos (by omega) (ev_pos e (Ev.now _))))
theorem spec_IsValidAccount.out (a b : Int) (l : List S123) (i : Int) (c0 c1 c2 : Int) (c3 : Bool) : Ev (fun k => spec_IsValidAccount.j1 k i true a b l c0 c1 c2 c3) false := by
  refine Ev.step (fun k => by rw [spec_IsValidAccount.j1]) ?_
  exact ev_pos rfl (Ev.now _)
theorem spec_IsValidAccount.ev (a b : Int) (l : List S123) (hl : l.length < 4611686018427387904) : Ev (fun k => spec_IsValidAccount.f k a b l) (validAccV a b l) := by
  unfold spec_IsValidAccount.f validAccV
  refine scan_all (n := l.length) (fun k i => spec_IsValidAccount.l0 k i a b l) (accOk l) _ ?_ (fun i hi q r ih => ?_) (fun i hi q => ?_)
  · refine Ev.step (fun k => by rw [spec_IsValidAccount.l0]) (ev_neg (by omega) (ev_bindc (spec_l1In.val _ _ _) ?_))
    by_cases h1 : 0 ≤ a ∧ a ≤ 1000000
    · refine ev_pos (by simpa using h1) (ev_bindc (spec_l1In.val _ _ _) ?_)
      by_cases h2 : 1 ≤ b ∧ b ≤ 3
      · refine ev_pos (by simpa using h2) (ev_const ?_)
        rw [dec_decide, dec_eq (P := (l.length : Int) ≤ 8) (Q := (0 ≤ a ∧ a ≤ 1000000) ∧ (1 ≤ b ∧ b ≤ 3) ∧ l.length ≤ 8) (by omega)]
      · rw [dec_false (fun h => h2 h.2.1)]
        exact ev_neg (by simpa using h2) (Ev.now _)
    · rw [dec_false (fun h => h1 h.1)]
      exact ev_neg (by simpa using h1) (Ev.now _)
  · obtain ⟨q0, q1, q2, q3, q4⟩ := q
    refine Ev.step (fun k => by rw [spec_IsValidAccount.l0]) (ev_pos (by omega) (ev_pos (by omega) (ev_bindc (spec_l1In.val _ _ _) ?_)))
    refine ev_pos (by simpa using q0) ?_
    simp only [spec_l1In.val, Option.bind_some, wrap_in (x := (i : Int) - 1) (show -9223372036854775808 ≤ (i : Int) - 1 by omega) (show (i : Int) - 1 ≤ 9223372036854775807 by omega), decide_eq_true q3, Bool.not_true]
    have go := spec_IsValidAccount.miss a b l hl i hi (rd_T123 l i).f0 (rd_T123 l i).f1 (rd_T123 l i).f2 (rd_T123 l i).f3 q4 r ih
    by_cases h : (i : Int) > 0
    · exact ev_pos h (ev_pos (by omega) (ev_pos (by omega) (ev_neg (by have := q1 (by omega); omega) (Ev.bind (spec_PrivateKey.ev _) (ev_neg q2 go)))))
    · exact ev_neg h (Ev.bind (spec_PrivateKey.ev _) (ev_neg q2 go))
  · have out := spec_IsValidAccount.out a b l i (rd_T123 l i).f0 (rd_T123 l i).f1 (rd_T123 l i).f2 (rd_T123 l i).f3
    refine Ev.step (fun k => by rw [spec_IsValidAccount.l0]) (ev_pos (by omega) (ev_pos (by omega) (ev_bindc (spec_l1In.val _ _ _) ?_)))
    by_cases q0 : 0 ≤ (rd_T123 l i).f0 ∧ (rd_T123 l i).f0 ≤ 1000000
    · refine ev_pos (by simpa using q0) ?_
      simp only [spec_l1In.val, Option.bind_some, wrap_in (x := (i : Int) - 1) (show -9223372036854775808 ≤ (i : Int) - 1 by omega) (show (i : Int) - 1 ≤ 9223372036854775807 by omega)]
      have last : (0 < i → (rd_T123 l ((i : Int) - 1)).f0 < (rd_T123 l i).f0) → privateKeyV (rd_T123 l i).f1 ≠ 0 → Ev (fun k => spec_IsValidAccount.j1 k (i : Int) (!decide (0 ≤ (rd_T123 l i).f2 ∧ (rd_T123 l i).f2 ≤ 1000000)) a b l (rd_T123 l i).f0 (rd_T123 l i).f1 (rd_T123 l i).f2 (rd_T123 l i).f3) false := by
        intro q1 q2
        by_cases q3 : 0 ≤ (rd_T123 l i).f2 ∧ (rd_T123 l i).f2 ≤ 1000000
        · rw [decide_eq_true q3, Bool.not_true]
          refine spec_IsValidAccount.hit a b l hl i hi _ _ _ _ ?_
          refine Classical.byContradiction fun no => q ⟨q0, q1, q2, q3, fun j hj e => no ⟨j, hj, e⟩⟩
        · rw [decide_eq_false q3, Bool.not_false]
          exact out
      refine ev_both (fun h => ?_) (fun h => ?_)
      · refine ev_pos (by omega) (ev_pos (by omega) (ev_both (fun _ => out) (fun h1 => ?_)))
        exact Ev.bind (spec_PrivateKey.ev _) (ev_both (fun _ => out) (fun h2 => last (fun _ => by omega) h2))
      · exact Ev.bind (spec_PrivateKey.ev _) (ev_both (fun _ => out) (fun h2 => last (fun _ => by omega) h2))
    · exact ev_neg (by simpa using q0) out

theorem spec_l14Copy.val (a b : Int) (l : List S123) (hl : l.length < 4398046511104) : spec_l14Copy.f a b l = some (a, b, l) := by
  unfold spec_l14Copy.f
  simp only [Option.bind_some, List.nil_append, List.length_nil]
  rw [if_pos (by omega)]

theorem spec_AddCredential.ev (a b : Int) (l : List S123) (h p : Int) (hl : l.length < 1000000000) : Ev (fun k => spec_AddCredential.f k a b l h p) (addV a b l h p) := by
  unfold spec_AddCredential.f
  refine ev_bindc (spec_l14Copy.val a b l (by omega)) ?_
  have tail : Ev (fun k => spec_AddCredential.j1 k h p ((posGo h l 0 : Nat) : Int) a b l a b l) (addV a b l h p) := by
    have r := posGo_range h l 0
    refine Ev.step (fun k => by rw [spec_AddCredential.j1]) ?_
    simp only [Option.bind_some, List.nil_append, List.length_nil, Int.toNat_natCast]
    refine ev_pos (by omega) (ev_pos (by omega) (ev_pos (by rw [List.length_take]; omega) (ev_pos (by simp only [List.length_take, List.length_cons, List.length_nil]; omega) (ev_pos (by simp only [List.length_append, List.length_take, List.length_drop, List.length_cons, List.length_nil]; omega) ?_))))
    refine Ev.bind (spec_IsValidAccount.ev a b l (by omega)) ?_
    unfold addV
    refine ev_ite (fun _ => ?_) (fun _ => ev_bindc (spec_l14Copy.val a b l (by omega)) (Ev.now _))
    have e : l.take (posGo h l 0) ++ [⟨h, p, 0, false⟩] ++ l.drop (posGo h l 0) = putIn l h p := rfl
    rw [e]
    have hp := putIn_length l h p
    exact Ev.bind (spec_IsValidAccount.ev a b _ (by omega)) (ev_ite (fun _ => Ev.now _) (fun _ => ev_bindc (spec_l14Copy.val a b l (by omega)) (Ev.now _)))
  have key : ∀ (d i : Nat), i + d = l.length → posGo h (l.drop i) i = posGo h l 0 → Ev (fun k => spec_AddCredential.l0 k h p (i : Int) a b l a b l) (addV a b l h p) := by
    intro d
    induction d with
    | zero =>
      intro i hi e
      rw [List.drop_of_length_le (by omega)] at e
      refine Ev.step (fun k => by rw [spec_AddCredential.l0]) (ev_neg (by omega) ?_)
      rw [show i = posGo h l 0 from e]
      exact tail
    | succ d ih =>
      intro i hi e
      have hx : i < l.length := by omega
      rw [List.drop_eq_getElem_cons hx] at e
      simp only [posGo] at e
      refine Ev.step (fun k => by rw [spec_AddCredential.l0]) (ev_pos (by omega) (ev_pos (by omega) ?_))
      rw [rd_T123, getD_get hx, wrap_succ (by omega)]
      by_cases c : l[i].f0 < h
      · rw [if_pos c] at e
        exact ev_pos c (ih (i + 1) (by omega) e)
      · rw [if_neg c] at e
        refine ev_neg c ?_
        rw [e]
        exact tail
  exact key l.length 0 (by omega) rfl

theorem spec_TransferAccount.ev (a b : Int) (l : List S123) (h p : Int) (hl : l.length < 100000000) : Ev (fun k => spec_TransferAccount.f k a b l h p) (transferV a b l h p) := by
  unfold spec_TransferAccount.f
  refine ev_bindc (spec_l14Copy.val a b l (by omega)) ?_
  refine map_loop (fun x => ⟨x.f0, x.f1, x.f2, true⟩) (fun k s i => spec_TransferAccount.l0 k h p i a b l a b s) l _ ?_ (fun s i hi hs r ih => ?_)
  · refine Ev.step (fun k => by rw [spec_TransferAccount.l0]) (ev_neg (by simp) ?_)
    refine Ev.bind (spec_AddCredential.ev a b (cutAll l) h p (by simp [cutAll]; omega)) (Ev.bind (spec_IsValidAccount.ev a b l (by omega)) ?_)
    unfold transferV
    refine ev_ite (fun _ => ev_ite (fun _ => Ev.now _) (fun _ => ?_)) (fun _ => ?_)
    · exact ev_bindc (spec_l14Copy.val a b l (by omega)) (Ev.now _)
    · exact ev_bindc (spec_l14Copy.val a b l (by omega)) (Ev.now _)
  · refine Ev.step (fun k => by rw [spec_TransferAccount.l0]) (ev_pos (by omega) (ev_pos (by omega) ?_))
    simp only [rd_T123, Int.toNat_natCast, getD_nat hi, wrap_succ (show i < 4611686018427387904 by omega)]
    exact ih

theorem impl_InRange.val (a b c : Int) : impl_InRange.f a b c = some (decide (b ≤ a ∧ a ≤ c)) := by
  unfold impl_InRange.f
  by_cases h : b ≤ a
  · rw [if_pos h]; simp [h]
  · rw [if_neg h]; simp [h]

theorem impl_power.evM : Ev (fun k => impl_power.f k 48271 2147483645 2147483647) 1899818559 :=
  Ev.of (k := 40) (fun k => impl_power.mono _ _ _ k) (by decide +kernel)

theorem impl_IsValidKey.val (a : Int) : impl_IsValidKey.f a = some (decide (1 ≤ a ∧ a ≤ 2147483646)) := by
  unfold impl_IsValidKey.f
  rw [impl_InRange.val]
  rfl

theorem impl_PrivateKey.ev (a : Int) : Ev (fun k => impl_PrivateKey.f k a) (privateKeyV a) := by
  unfold impl_PrivateKey.f
  rw [impl_IsValidKey.val]
  simp only [Option.bind_some, decide_eq_true_eq]
  by_cases h : 1 ≤ a ∧ a ≤ 2147483646
  · have e : privateKeyV a = a * 1899818559 % 2147483647 := if_pos h
    refine ev_pos h (Ev.bind impl_power.evM ?_)
    rw [wrap_in (by omega) (by omega), Int.tmod_eq_emod_of_nonneg (by omega), ← e]
    exact Ev.now _
  · refine ev_neg h ?_
    rw [(private_ne a).2 h]
    exact Ev.now _

theorem impl_IsValidAccount.inner (a b : Int) (l : List S123) (hl : l.length < 4611686018427387904) (i : Nat) (hi : i < l.length) (c0 c1 c2 : Int) (c3 : Bool) : ∀ j, j < i → ¬ (rd_T123 l j).f1 = c1 → ∀ r, Ev (fun k => impl_IsValidAccount.l1 k l l.length i (l.take i) (l.take i).length ((j + 1 : Nat) : Int) a b l c0 c1 c2 c3) r → Ev (fun k => impl_IsValidAccount.l1 k l l.length i (l.take i) (l.take i).length (j : Int) a b l c0 c1 c2 c3) r := by
  intro j hj q r ih
  have e : rd_T123 (l.take i) (j : Int) = rd_T123 l (j : Int) := by
    unfold rd_T123
    rw [getD_get (by rw [List.length_take]; omega), getD_get (by omega), List.getElem_take]
  have n : (l.take i).length = i := by rw [List.length_take]; omega
  refine Ev.step (fun k => by rw [impl_IsValidAccount.l1]) ?_
  rw [wrap_succ (i := j) (by omega), e]
  exact ev_pos (by omega) (ev_pos (by omega) (ev_pos (by omega) (ev_neg q ih)))
theorem impl_IsValidAccount.miss (a b : Int) (l : List S123) (hl : l.length < 4611686018427387904) (i : Nat) (hi : i < l.length) (c0 c1 c2 : Int) (c3 : Bool) (h : ∀ j : Nat, j < i → ¬ (rd_T123 l j).f1 = c1) (r : Bool) (ih : Ev (fun k => impl_IsValidAccount.l0 k l l.length ((i + 1 : Nat) : Int) a b l) r) : Ev (fun k => impl_IsValidAccount.j2 k (i : Int) l l.length i false a b l c0 c1 c2 c3) r := by
  have n : (l.take i).length = i := by rw [List.length_take]; omega
  refine Ev.step (fun k => by rw [impl_IsValidAccount.j2]) (ev_neg (by simp) (ev_pos (by omega) (ev_pos (by omega) ?_)))
  simp only [Int.toNat_natCast, Option.bind_some]
  refine scan_miss (n := i) (fun k j => impl_IsValidAccount.l1 k l l.length i (l.take i) (l.take i).length j a b l c0 c1 c2 c3) (fun j => (rd_T123 l j).f1 = c1) r ?_ (impl_IsValidAccount.inner a b l hl i hi c0 c1 c2 c3) h
  refine Ev.step (fun k => by rw [impl_IsValidAccount.l1]) ?_
  rw [wrap_succ (i := i) (by omega)]
  exact ev_neg (by omega) ih
theorem impl_IsValidAccount.hit (a b : Int) (l : List S123) (hl : l.length < 4611686018427387904) (i : Nat) (hi : i < l.length) (c0 c1 c2 : Int) (c3 : Bool) (h : ∃ j : Nat, j < i ∧ (rd_T123 l j).f1 = c1) : Ev (fun k => impl_IsValidAccount.j2 k (i : Int) l l.length i false a b l c0 c1 c2 c3) false := by
  have n : (l.take i).length = i := by rw [List.length_take]; omega
  refine Ev.step (fun k => by rw [impl_IsValidAccount.j2]) (ev_neg (by simp) (ev_pos (by omega) (ev_pos (by omega) ?_)))
  simp only [Int.toNat_natCast, Option.bind_some]
  refine scan_hit (n := i) (fun k j => impl_IsValidAccount.l1 k l l.length i (l.take i) (l.take i).length j a b l c0 c1 c2 c3) (fun j => (rd_T123 l j).f1 = c1) false (impl_IsValidAccount.inner a b l hl i hi c0 c1 c2 c3) (fun j hj e => ?_) h
  have e2 : rd_T123 (l.take i) (j : Int) = rd_T123 l (j : Int) := by
    unfold rd_T123
    rw [getD_get (by rw [List.length_take]; omega), getD_get (by omega), List.getElem_take]
  refine Ev.step (fun k => by rw [impl_IsValidAccount.l1]) ?_
  rw [e2]
  exact ev_pos (by omega) (ev_pos (by omega) (ev_pos (by omega) (ev_pos e (Ev.now _))))
theorem impl_IsValidAccount.out (a b : Int) (l : List S123) (i n : Int) (c0 c1 c2 : Int) (c3 : Bool) : Ev (fun k => impl_IsValidAccount.j2 k i l n i true a b l c0 c1 c2 c3) false := by
  refine Ev.step (fun k => by rw [impl_IsValidAccount.j2]) ?_
  exact ev_pos rfl (Ev.now _)
theorem impl_IsValidAccount.ev (a b : Int) (l : List S123) (hl : l.length < 4611686018427387904) : Ev (fun k => impl_IsValidAccount.f k a b l) (validAccV a b l) := by
  unfold impl_IsValidAccount.f
  have no : ¬ ((0 ≤ a ∧ a ≤ 1000000) ∧ (1 ≤ b ∧ b ≤ 3) ∧ l.length ≤ 8) → Ev (fun k => impl_IsValidAccount.j0 k true a b l) (validAccV a b l) := by
    intro h
    unfold validAccV
    rw [dec_false (fun g => h g.2)]
    refine Ev.step (fun k => by rw [impl_IsValidAccount.j0]) ?_
    exact ev_pos rfl (Ev.now _)
  refine ev_bindc (impl_InRange.val _ _ _) ?_
  by_cases h1 : 0 ≤ a ∧ a ≤ 1000000
  rotate_left
  · exact ev_neg (by simpa using h1) (no (fun h => h1 h.1))
  refine ev_pos (by simpa using h1) (ev_bindc (impl_InRange.val _ _ _) ?_)
  by_cases h2 : 1 ≤ b ∧ b ≤ 3
  rotate_left
  · exact ev_neg (by simpa using h2) (no (fun h => h2 h.2.1))
  refine ev_pos (by simpa using h2) ?_
  by_cases h3 : l.length ≤ 8
  rotate_left
  · rw [decide_eq_true (show (l.length : Int) > 8 by omega)]
    exact no (fun h => h3 h.2.2)
  rw [decide_eq_false (show ¬ (l.length : Int) > 8 by omega)]
  refine Ev.step (fun k => by rw [impl_IsValidAccount.j0]) (ev_neg (by simp) ?_)
  unfold validAccV
  refine scan_all (n := l.length) (fun k i => impl_IsValidAccount.l0 k l l.length i a b l) (accOk l) _ ?_ (fun i hi q r ih => ?_) (fun i hi q => ?_)
  · refine Ev.step (fun k => by rw [impl_IsValidAccount.l0]) (ev_neg (by omega) ?_)
    rw [dec_true ⟨h1, h2, h3⟩]
    exact Ev.now _
  · obtain ⟨q0, q1, q2, q3, q4⟩ := q
    refine Ev.step (fun k => by rw [impl_IsValidAccount.l0]) (ev_pos (by omega) (ev_pos (by omega) (ev_pos (by omega) (ev_bindc (impl_InRange.val _ _ _) ?_))))
    refine ev_pos (by simpa using q0) ?_
    simp only [impl_InRange.val, Option.bind_some, wrap_in (x := (i : Int) - 1) (show -9223372036854775808 ≤ (i : Int) - 1 by omega) (show (i : Int) - 1 ≤ 9223372036854775807 by omega), decide_eq_true q3, Bool.not_true]
    have go := impl_IsValidAccount.miss a b l hl i hi (rd_T123 l i).f0 (rd_T123 l i).f1 (rd_T123 l i).f2 (rd_T123 l i).f3 q4 r ih
    by_cases h : (i : Int) > 0
    · exact ev_pos h (ev_pos (by omega) (ev_pos (by omega) (ev_neg (by have := q1 (by omega); omega) (Ev.bind (impl_PrivateKey.ev _) (ev_neg q2 go)))))
    · exact ev_neg h (Ev.bind (impl_PrivateKey.ev _) (ev_neg q2 go))
  · have out := impl_IsValidAccount.out a b l i l.length (rd_T123 l i).f0 (rd_T123 l i).f1 (rd_T123 l i).f2 (rd_T123 l i).f3
    refine Ev.step (fun k => by rw [impl_IsValidAccount.l0]) (ev_pos (by omega) (ev_pos (by omega) (ev_pos (by omega) (ev_bindc (impl_InRange.val _ _ _) ?_))))
    by_cases q0 : 0 ≤ (rd_T123 l i).f0 ∧ (rd_T123 l i).f0 ≤ 1000000
    · refine ev_pos (by simpa using q0) ?_
      simp only [impl_InRange.val, Option.bind_some, wrap_in (x := (i : Int) - 1) (show -9223372036854775808 ≤ (i : Int) - 1 by omega) (show (i : Int) - 1 ≤ 9223372036854775807 by omega)]
      have last : (0 < i → (rd_T123 l ((i : Int) - 1)).f0 < (rd_T123 l i).f0) → privateKeyV (rd_T123 l i).f1 ≠ 0 → Ev (fun k => impl_IsValidAccount.j2 k (i : Int) l l.length i (!decide (0 ≤ (rd_T123 l i).f2 ∧ (rd_T123 l i).f2 ≤ 1000000)) a b l (rd_T123 l i).f0 (rd_T123 l i).f1 (rd_T123 l i).f2 (rd_T123 l i).f3) false := by
        intro q1 q2
        by_cases q3 : 0 ≤ (rd_T123 l i).f2 ∧ (rd_T123 l i).f2 ≤ 1000000
        · rw [decide_eq_true q3, Bool.not_true]
          refine impl_IsValidAccount.hit a b l hl i hi _ _ _ _ ?_
          refine Classical.byContradiction fun no => q ⟨q0, q1, q2, q3, fun j hj e => no ⟨j, hj, e⟩⟩
        · rw [decide_eq_false q3, Bool.not_false]
          exact out
      refine ev_both (fun h => ?_) (fun h => ?_)
      · refine ev_pos (by omega) (ev_pos (by omega) (ev_both (fun _ => out) (fun h1 => ?_)))
        exact Ev.bind (impl_PrivateKey.ev _) (ev_both (fun _ => out) (fun h2 => last (fun _ => by omega) h2))
      · exact Ev.bind (impl_PrivateKey.ev _) (ev_both (fun _ => out) (fun h2 => last (fun _ => by omega) h2))
    · exact ev_neg (by simpa using q0) out

theorem impl_copyAccount.val (a b : Int) (l : List S123) (hl : l.length < 4398046511104) : impl_copyAccount.f a b l = some (a, b, l) := by
  unfold impl_copyAccount.f
  simp only [Option.bind_some, List.nil_append, List.length_nil]
  rw [if_pos (by omega)]

theorem impl_AddCredential.ev (a b : Int) (l : List S123) (h p : Int) (hl : l.length < 1000000000) : Ev (fun k => impl_AddCredential.f k a b l h p) (addV a b l h p) := by
  unfold impl_AddCredential.f
  refine Ev.bind (impl_IsValidAccount.ev a b l (by omega)) ?_
  by_cases v : validAccV a b l = true
  rotate_left
  · unfold addV
    rw [if_neg v]
    exact ev_neg v (ev_bindc (impl_copyAccount.val a b l (by omega)) (Ev.now _))
  refine ev_pos v ?_
  have tail : Ev (fun k => impl_AddCredential.j1 k h p ((posGo h l 0 : Nat) : Int) a b l) (addV a b l h p) := by
    have r := posGo_range h l 0
    refine Ev.step (fun k => by rw [impl_AddCredential.j1]) ?_
    refine ev_bindc (impl_copyAccount.val a b l (by omega)) ?_
    simp only [Option.bind_some, List.nil_append, List.length_nil, Int.toNat_natCast]
    refine ev_pos (by omega) (ev_pos (by omega) (ev_pos (by rw [List.length_take]; omega) (ev_pos (by simp only [List.length_take, List.length_cons, List.length_nil]; omega) (ev_pos (by simp only [List.length_append, List.length_take, List.length_drop, List.length_cons, List.length_nil]; omega) ?_))))
    unfold addV
    rw [if_pos v]
    have e : l.take (posGo h l 0) ++ [⟨h, p, 0, false⟩] ++ l.drop (posGo h l 0) = putIn l h p := rfl
    rw [e]
    have hp := putIn_length l h p
    exact Ev.bind (impl_IsValidAccount.ev a b _ (by omega)) (ev_ite (fun _ => Ev.now _) (fun _ => ev_bindc (impl_copyAccount.val a b l (by omega)) (Ev.now _)))
  have key : ∀ (d i : Nat), i + d = l.length → posGo h (l.drop i) i = posGo h l 0 → Ev (fun k => impl_AddCredential.l0 k h p (i : Int) a b l) (addV a b l h p) := by
    intro d
    induction d with
    | zero =>
      intro i hi e
      rw [List.drop_of_length_le (by omega)] at e
      refine Ev.step (fun k => by rw [impl_AddCredential.l0]) (ev_neg (by omega) ?_)
      rw [show i = posGo h l 0 from e]
      exact tail
    | succ d ih =>
      intro i hi e
      have hx : i < l.length := by omega
      rw [List.drop_eq_getElem_cons hx] at e
      simp only [posGo] at e
      refine Ev.step (fun k => by rw [impl_AddCredential.l0]) (ev_pos (by omega) (ev_pos (by omega) ?_))
      rw [rd_T123, getD_get hx, wrap_succ (by omega)]
      by_cases c : l[i].f0 < h
      · rw [if_pos c] at e
        exact ev_pos c (ih (i + 1) (by omega) e)
      · rw [if_neg c] at e
        refine ev_neg c ?_
        rw [e]
        exact tail
  exact key l.length 0 (by omega) rfl

theorem impl_TransferAccount.ev (a b : Int) (l : List S123) (h p : Int) (hl : l.length < 100000000) : Ev (fun k => impl_TransferAccount.f k a b l h p) (transferV a b l h p) := by
  unfold impl_TransferAccount.f
  refine Ev.bind (impl_IsValidAccount.ev a b l (by omega)) ?_
  by_cases v : validAccV a b l = true
  rotate_left
  · unfold transferV
    rw [if_neg v]
    exact ev_neg v (ev_bindc (impl_copyAccount.val a b l (by omega)) (Ev.now _))
  refine ev_pos v (ev_bindc (impl_copyAccount.val a b l (by omega)) ?_)
  refine map_loop (fun x => ⟨x.f0, x.f1, x.f2, true⟩) (fun k s i => impl_TransferAccount.l0 k h p l.length i a b l a b s) l _ ?_ (fun s i hi hs r ih => ?_)
  · refine Ev.step (fun k => by rw [impl_TransferAccount.l0]) (ev_neg (by simp) ?_)
    refine Ev.bind (impl_AddCredential.ev a b (cutAll l) h p (by simp [cutAll]; omega)) ?_
    unfold transferV
    rw [if_pos v]
    exact ev_ite (fun _ => Ev.now _) (fun _ => ev_bindc (impl_copyAccount.val a b l (by omega)) (Ev.now _))
  · refine Ev.step (fun k => by rw [impl_TransferAccount.l0]) (ev_pos (by omega) (ev_pos (by omega) (ev_pos (by omega) ?_)))
    simp only [rd_T123, Int.toNat_natCast, getD_nat hi, wrap_succ (show i < 4611686018427387904 by omega)]
    exact ih

theorem FnExactTransferAccount : Claim := by
  intro a b l h p _ _ ⟨hl, _⟩ _ _
  refine Ev.rounds (r := true) ?_
  unfold laws_FnExactTransferAccount.f
  by_cases hs : (l.length : Int) ≤ 1048576
  · refine ev_bindc (laws_szAccount.fits a b l _ (by omega) hs) (ev_neg (by omega) ?_)
    have hm : (l.map cvCredential).length ≤ 1048576 := by rw [List.length_map]; omega
    have hv := transferV_length a b (l.map cvCredential) h p
    have es := spec_TransferAccount.ev a b (l.map cvCredential) h p (by omega)
    have ei := impl_TransferAccount.ev a b (l.map cvCredential) h p (by omega)
    generalize transferV a b (l.map cvCredential) h p = v at hv es ei
    obtain ⟨v0, v1, v2, v3⟩ := v
    simp only at hv
    have hc := mkCredential_list (l.map cvCredential) 1 (by omega) (by omega)
    have hc2 := mkCredential_list v2 1 (by omega) (by omega)
    refine Ev.bind (laws_toAccount.ev a b l (by omega)) (Ev.bind es ?_)
    refine Ev.bind (laws_toAccount.ev a b l (by omega)) (Ev.bind ei ?_)
    refine Ev.bind (laws_eqAccount.ev v0 v1 v2 (by omega)) (ev_pos rfl (ev_neg (by simp) ?_))
    refine Ev.bind (laws_toAccount.ev a b l (by omega)) (Ev.bind (laws_eqAccount.ev a b (l.map cvCredential) (by omega)) (ev_pos rfl ?_))
    refine Ev.bind (laws_markAccount.ev a b (l.map cvCredential) 1 (by omega)) (ev_neg (by rw [hc]; omega) ?_)
    refine Ev.bind (laws_eqAccount.ev v0 v1 v2 (by omega)) (ev_pos rfl ?_)
    refine Ev.bind (laws_markAccount.ev v0 v1 v2 1 (by omega)) (Ev.bind (laws_heldAccount.ev v0 v1 v2 1 (by omega) (by omega)) ?_)
    refine ev_neg (by rw [hc2]; omega) (ev_pos rfl ?_)
    refine Ev.bind (laws_toAccount.ev a b l (by omega)) (Ev.bind ei ?_)
    refine Ev.bind (laws_eqAccount.ev v0 v1 v2 (by omega)) (ev_pos rfl (ev_neg (by simp) ?_))
    refine Ev.bind (laws_heldAccount.ev v0 v1 v2 1 (by omega) (by omega)) ?_
    exact ev_neg (by rw [hc2]; omega) (ev_pos rfl (Ev.now _))
  · exact ev_bindc (laws_szAccount.big a b l _ (by omega) (by omega) (by omega) hl) (ev_pos (by omega) (Ev.now _))

end Go.Proofs.Ytjggdakbphjomaa.Pure
