/- The law FnClaims answers true, for all arguments that the row lets in; no condition besides. Here: the plain side, over the printed functions. -/
import Derived.Test.YtjggdakbphjomaaZFnClaimsx17
import Derived.Test.YtjggdakbphjomaaKitV
namespace Go.Proofs.Ytjggdakbphjomaa.Pure
open Go.RowKit Go.Proofs.Ytjggdakbphjomaa.ZFnClaims Go.Proofs.YtjggdakbphjomaaW.PrintWords Go.Proofs.YtjggdakbphjomaaW.PrintLast Go.Proofs.YtjggdakbphjomaaW.PrintMore Go.Proofs.Ytjggdakbphjomaa.Kit
set_option linter.unusedVariables false
set_option linter.unusedSimpArgs false

/-- What is to be proved of the printed functions. -/
def Claim : Prop := ∀ (l0 : List Int), (l0.length ≤ maxLen ∧ ∀ y_ ∈ l0, (Lit.int .u8 y_).wf = true) → ∃ k, laws_FnClaims.f k l0 = some true

theorem laws_big.val (l : List Int) : laws_big.f l = some (decide ((l.length : Int) > 1048576)) := rfl

theorem i64_and255 (n : Int) : Go.bits .and .i64 n 255 = n % 256 := by
  have h255 : (BitVec.ofInt 64 255).toNat = 2 ^ 8 - 1 := by decide
  have key : (BitVec.ofInt 64 n &&& BitVec.ofInt 64 255).toNat = (n % ((2 ^ 64 : Nat) : Int)).toNat % 2 ^ 8 := by
    rw [BitVec.toNat_and, BitVec.toNat_ofInt, h255, Nat.and_two_pow_sub_one_eq_mod]
  show IntKind.i64.wrap ((BitVec.ofInt 64 n &&& BitVec.ofInt 64 255).toNat : Nat) = n % 256
  rw [key, IntKind.wrap_i64]
  omega

theorem spec_l1Byte.draw (b : List Int) (p h : Int) (hb : b.length ≤ 1048576) (hp : 0 ≤ p) : ∃ x q g, spec_l1Byte.f b p h = some (x, q, g) ∧ 0 ≤ x ∧ x ≤ 255 ∧ 0 ≤ q := by
  unfold spec_l1Byte.f
  have r : ∀ n : Int, 0 ≤ n % 256 ∧ n % 256 ≤ 255 := fun n => by omega
  by_cases c : p < (b.length : Int)
  · rw [if_pos c, if_pos hp, i64_and255]
    exact ⟨_, _, _, rfl, (r _).1, (r _).2, by rw [wrap_in (by omega) (by omega)]; omega⟩
  · rw [if_neg c, i64_and255]
    exact ⟨_, _, _, rfl, (r _).1, (r _).2, hp⟩

theorem spec_l1Below.draw (b : List Int) (p h n : Int) (hb : b.length ≤ 1048576) (hp : 0 ≤ p) (hn : n ≤ 256) : ∃ x q g, spec_l1Below.f b p h n = some (x, q, g) ∧ 0 ≤ x ∧ (0 < n → x < n) ∧ 0 ≤ q := by
  unfold spec_l1Below.f
  by_cases c : n ≤ 0
  · rw [if_pos c]
    exact ⟨_, _, _, rfl, by omega, fun h => by omega, hp⟩
  · rw [if_neg c, if_pos hn]
    obtain ⟨x, q, g, e, x0, x1, q0⟩ := spec_l1Byte.draw b p h hb hp
    rw [e]
    refine ⟨Int.tmod x n, q, g, ?_, Int.tmod_nonneg n x0, fun h => Int.tmod_lt_of_pos x h, q0⟩
    simp only [Option.bind_some]
    rw [if_neg (by omega)]

theorem spec_l1Int.draw (b : List Int) (p h : Int) (l : List Int) (hb : b.length ≤ 1048576) (hp : 0 ≤ p) (h0 : 0 < l.length) (hn : l.length ≤ 256) : ∃ x q g, spec_l1Int.f b p h l = some (x, q, g) ∧ x ∈ l ∧ 0 ≤ q := by
  unfold spec_l1Int.f
  obtain ⟨x, q, g, e, x0, x1, q0⟩ := spec_l1Below.draw b p h (l.length : Int) hb hp (by omega)
  rw [e]
  have x2 := x1 (by omega)
  simp only [Option.bind_some]
  rw [if_pos x0, if_pos x2]
  refine ⟨_, _, _, rfl, ?_, q0⟩
  have := rd_get (xs := l) (i := x.toNat) (by omega)
  rw [Int.toNat_of_nonneg x0] at this
  rw [this]
  exact List.getElem_mem _

def findClaimGo (id : Int) : List S104 → Nat → Int
  | [], _ => -1
  | x :: xs, i => if x.f0 = id then (i : Int) else findClaimGo id xs (i + 1)
def findClaimV (l : List S104) (id : Int) : Int := findClaimGo id l 0
theorem findClaimGo_range (id : Int) : ∀ (l : List S104) (i : Nat), findClaimGo id l i = -1 ∨ ((i : Int) ≤ findClaimGo id l i ∧ findClaimGo id l i < i + l.length)
  | [], i => .inl rfl
  | x :: xs, i => by
    simp only [findClaimGo, List.length_cons]
    split
    · right; omega
    · have := findClaimGo_range id xs (i + 1)
      omega
theorem findClaim_range (l : List S104) (id : Int) : findClaimV l id = -1 ∨ (0 ≤ findClaimV l id ∧ findClaimV l id < l.length) := by
  have := findClaimGo_range id l 0
  unfold findClaimV
  omega

def openV (l : List S104) (a : Int) : List Int := (l.filter (fun x => decide (x.f1 = a) && decide (x.f5 = 1))).map (fun x => x.f0)
theorem openV_cons (x : S104) (l : List S104) (a : Int) : openV (x :: l) a = if x.f1 = a ∧ x.f5 = 1 then x.f0 :: openV l a else openV l a := by
  unfold openV
  by_cases h : x.f1 = a ∧ x.f5 = 1
  · simp [h]
  · rw [if_neg h, List.filter_cons_of_neg (by simpa using h)]
theorem openV_length (l : List S104) (a : Int) : (openV l a).length ≤ l.length := by
  unfold openV
  rw [List.length_map]
  exact List.length_filter_le _ _

theorem claimTail {J : Nat → Bool → Option Bool} {p2 p3 p5 : Prop} [Decidable p2] [Decidable p3] [Decidable p5] {w : Int} {r : Bool} (good : p2 → p3 → (w = 30 ∨ w = 90) → p5 → Ev (fun k => J k false) r) (bad : ¬ (p2 ∧ p3 ∧ (w = 30 ∨ w = 90) ∧ p5) → Ev (fun k => J k true) r) : Ev (fun k => if p2 then (if p3 then (if w = 30 then J k (!decide p5) else (if w = 90 then J k (!decide p5) else J k true)) else J k true) else J k true) r := by
  have last : p2 → p3 → (w = 30 ∨ w = 90) → Ev (fun k => J k (!decide p5)) r := by
    intro h2 h3 h4
    by_cases h5 : p5
    · simp only [decide_eq_true h5, Bool.not_true]
      exact good h2 h3 h4 h5
    · simp only [decide_eq_false h5, Bool.not_false]
      exact bad (fun h => h5 h.2.2.2)
  refine ev_both (fun h2 => ?_) (fun h2 => bad (fun h => h2 h.1))
  refine ev_both (fun h3 => ?_) (fun h3 => bad (fun h => h3 h.2.1))
  refine ev_both (fun h4 => last h2 h3 (Or.inl h4)) (fun h4 => ?_)
  refine ev_both (fun h5 => last h2 h3 (Or.inr h5)) (fun h5 => bad (fun h => ?_))
  exact h.2.2.1.elim h4 h5
theorem claimChain {J : Nat → Bool → Option Bool} {p0 p2 p3 p5 : Prop} [Decidable p0] [Decidable p2] [Decidable p3] [Decidable p5] {w f g : Int} {i n : Nat} (hi : i < n) {r : Bool} (good : p0 → (0 < i → f < g) → p2 → p3 → (w = 30 ∨ w = 90) → p5 → Ev (fun k => J k false) r) (bad : ¬ (p0 ∧ (0 < i → f < g) ∧ p2 ∧ p3 ∧ (w = 30 ∨ w = 90) ∧ p5) → Ev (fun k => J k true) r) : Ev (fun k => if p0 then (if (i : Int) > 0 then (if 0 ≤ (i : Int) - 1 then (if (i : Int) - 1 < (n : Int) then (if f ≥ g then J k true else (if p2 then (if p3 then (if w = 30 then J k (!decide p5) else (if w = 90 then J k (!decide p5) else J k true)) else J k true) else J k true)) else none) else none) else (if p2 then (if p3 then (if w = 30 then J k (!decide p5) else (if w = 90 then J k (!decide p5) else J k true)) else J k true) else J k true)) else J k true) r := by
  refine ev_both (fun h0 => ?_) (fun h0 => bad (fun h => h0 h.1))
  refine ev_both (fun h => ?_) (fun h => ?_)
  · refine ev_pos (by omega) (ev_pos (by omega) (ev_both (fun h1 => bad (fun q => ?_)) (fun h1 => ?_)))
    · have := q.2.1 (by omega)
      omega
    · exact claimTail (J := J) (good h0 (fun _ => by omega)) (fun q => bad (fun a => q a.2.2))
  · exact claimTail (J := J) (good h0 (fun _ => by omega)) (fun q => bad (fun a => q a.2.2))

def claimOk (n : Int) (l : List S104) (i : Nat) : Prop := (0 ≤ (rd_T104 l i).f0 ∧ (rd_T104 l i).f0 ≤ wrap64 (n - 1)) ∧ (0 < i → (rd_T104 l ((i : Int) - 1)).f0 < (rd_T104 l i).f0) ∧ (0 ≤ (rd_T104 l i).f1 ∧ (rd_T104 l i).f1 ≤ 1000000) ∧ (0 ≤ (rd_T104 l i).f3 ∧ (rd_T104 l i).f3 ≤ 1000000) ∧ ((rd_T104 l i).f4 = 30 ∨ (rd_T104 l i).f4 = 90) ∧ (1 ≤ (rd_T104 l i).f5 ∧ (rd_T104 l i).f5 ≤ 3)
def claimOne (l : List S104) (i : Nat) : Prop := (rd_T104 l i).f5 = 1 → ¬ 1 < (openV l (rd_T104 l i).f1).length
def claimTwo (l : List S104) (i j : Nat) : Prop := (rd_T104 l j).f5 = 1 ∧ (rd_T104 l i).f5 = 1 ∧ (rd_T104 l j).f1 = (rd_T104 l i).f1
noncomputable def validClaimsV (n : Int) (l : List S104) : Bool := dec ((∀ i, i < l.length → claimOk n l i ∧ ∀ j, j < i → ¬ claimTwo l i j) ∧ (0 ≤ n ∧ n ≤ 1000000) ∧ l.length ≤ 10)
def openAt (l : List S104) (a : Int) (i : Nat) : Prop := (rd_T104 l i).f1 = a ∧ (rd_T104 l i).f5 = 1
theorem openAt_zero (c : S104) (l : List S104) (a : Int) : openAt (c :: l) a 0 ↔ c.f1 = a ∧ c.f5 = 1 := by
  have e : rd_T104 (c :: l) ((0 : Nat) : Int) = c := by unfold rd_T104; rfl
  unfold openAt
  rw [e]
theorem openAt_succ (c : S104) (l : List S104) (a : Int) (i : Nat) : openAt (c :: l) a (i + 1) ↔ openAt l a i := by
  have e : rd_T104 (c :: l) ((i + 1 : Nat) : Int) = rd_T104 l (i : Int) := by unfold rd_T104; rfl
  unfold openAt
  rw [e]
theorem open_one (l : List S104) (a : Int) : 1 ≤ (openV l a).length ↔ ∃ i, i < l.length ∧ openAt l a i := by
  induction l with
  | nil => exact ⟨fun h => by simp [openV] at h, fun ⟨i, h, _⟩ => by simp at h⟩
  | cons c l ih =>
    rw [openV_cons]
    by_cases m : c.f1 = a ∧ c.f5 = 1
    · rw [if_pos m]
      exact ⟨fun _ => ⟨0, by simp, (openAt_zero c l a).2 m⟩, fun _ => by simp⟩
    · rw [if_neg m, ih]
      constructor
      · intro ⟨i, h, q⟩
        exact ⟨i + 1, by simp only [List.length_cons]; omega, (openAt_succ c l a i).2 q⟩
      · intro ⟨i, h, q⟩
        cases i with
        | zero => exact absurd ((openAt_zero c l a).1 q) m
        | succ i => exact ⟨i, by simp only [List.length_cons] at h; omega, (openAt_succ c l a i).1 q⟩
theorem open_two (l : List S104) (a : Int) : 2 ≤ (openV l a).length ↔ ∃ i j, j < i ∧ i < l.length ∧ openAt l a i ∧ openAt l a j := by
  induction l with
  | nil => exact ⟨fun h => by simp [openV] at h, fun ⟨i, j, _, h, _⟩ => by simp at h⟩
  | cons c l ih =>
    rw [openV_cons]
    by_cases m : c.f1 = a ∧ c.f5 = 1
    · rw [if_pos m]
      constructor
      · intro h
        obtain ⟨i, hi, q⟩ := (open_one l a).1 (by simp only [List.length_cons] at h; omega)
        exact ⟨i + 1, 0, by omega, by simp only [List.length_cons]; omega, (openAt_succ c l a i).2 q, (openAt_zero c l a).2 m⟩
      · intro ⟨i, j, hj, hi, q, _⟩
        cases i with
        | zero => omega
        | succ i =>
          have := (open_one l a).2 ⟨i, by simp only [List.length_cons] at hi; omega, (openAt_succ c l a i).1 q⟩
          simp only [List.length_cons]; omega
    · rw [if_neg m, ih]
      constructor
      · intro ⟨i, j, hj, hi, q, q'⟩
        exact ⟨i + 1, j + 1, by omega, by simp only [List.length_cons]; omega, (openAt_succ c l a i).2 q, (openAt_succ c l a j).2 q'⟩
      · intro ⟨i, j, hj, hi, q, q'⟩
        cases j with
        | zero => exact absurd ((openAt_zero c l a).1 q') m
        | succ j =>
          cases i with
          | zero => omega
          | succ i => exact ⟨i, j, by omega, by simp only [List.length_cons] at hi; omega, (openAt_succ c l a i).1 q, (openAt_succ c l a j).1 q'⟩
theorem claims_agree (n : Int) (l : List S104) : (∀ i, i < l.length → claimOk n l i ∧ claimOne l i) ↔ (∀ i, i < l.length → claimOk n l i ∧ ∀ j, j < i → ¬ claimTwo l i j) := by
  constructor
  · intro H i hi
    refine ⟨(H i hi).1, fun j hj t => ?_⟩
    refine (H i hi).2 t.2.1 ?_
    exact (open_two l _).2 ⟨i, j, hj, hi, ⟨rfl, t.2.1⟩, ⟨t.2.2, t.1⟩⟩
  · intro H i hi
    refine ⟨(H i hi).1, fun _ h => ?_⟩
    obtain ⟨i', j', hj, hi', q, q'⟩ := (open_two l (rd_T104 l i).f1).1 h
    exact (H i' hi').2 j' hj ⟨q'.2, q.2, q'.1.trans q.1.symm⟩

noncomputable def objectV (n : Int) (l : List S104) (id t : Int) : Int × List S104 × Bool :=
  if validClaimsV n l = true then (if findClaimV l id < 0 then (n, l, false) else (if (rd_T104 l (findClaimV l id)).f5 = 1 then (if ((rd_T104 l (findClaimV l id)).f3 ≤ t ∧ t ≤ wrap64 (((rd_T104 l (findClaimV l id)).f3) + ((rd_T104 l (findClaimV l id)).f4))) then (n, l.set (findClaimV l id).toNat ⟨(rd_T104 l (findClaimV l id)).f0, (rd_T104 l (findClaimV l id)).f1, (rd_T104 l (findClaimV l id)).f2, (rd_T104 l (findClaimV l id)).f3, (rd_T104 l (findClaimV l id)).f4, 2⟩, true) else (n, l, false)) else (n, l, false))) else (n, l, false)
theorem objectV_length (n : Int) (l : List S104) (id t : Int) : (objectV n l id t).2.1.length = l.length := by
  unfold objectV
  repeat' split
  all_goals simp

theorem spec_l28Copy.val (n : Int) (l : List S104) (hl : l.length < 2932031007402) : spec_l28Copy.f n l = some (n, l) := by
  unfold spec_l28Copy.f
  simp only [Option.bind_some, List.nil_append, List.length_nil]
  rw [if_pos (by omega)]

theorem spec_l28Find.ev (n : Int) (l : List S104) (id : Int) (hl : l.length < 4611686018427387904) : Ev (fun k => spec_l28Find.f k n l id) (findClaimV l id) := by
  unfold spec_l28Find.f findClaimV
  have key : ∀ (d i : Nat), i + d = l.length → Ev (fun k => spec_l28Find.l0 k id (i : Int) n l) (findClaimGo id (l.drop i) i) := by
    intro d
    induction d with
    | zero =>
      intro i hi
      rw [List.drop_of_length_le (by omega)]
      refine Ev.step (fun k => by rw [spec_l28Find.l0]) ?_
      exact ev_neg (by omega) (Ev.now _)
    | succ d ih =>
      intro i hi
      have h : i < l.length := by omega
      rw [List.drop_eq_getElem_cons h]
      refine Ev.step (fun k => by rw [spec_l28Find.l0]) ?_
      refine ev_pos (by omega) (ev_pos (by omega) ?_)
      rw [rd_T104, getD_get h, wrap_succ (by omega)]
      exact ev_ite (fun _ => Ev.now _) (fun _ => ih (i + 1) (by omega))
  simpa using key l.length 0 (by omega)

theorem spec_l1In.val (a b c : Int) : spec_l1In.f a b c = some (decide (b ≤ a ∧ a ≤ c)) := by
  unfold spec_l1In.f
  by_cases h : a ≥ b
  · rw [if_pos h]; simp only [ge_iff_le] at h; simp [h]
  · rw [if_neg h]; simp only [ge_iff_le] at h; simp [h]

theorem spec_OpenClaims.ev (n : Int) (l : List S104) (a : Int) (hl : l.length < 17592186044000) : Ev (fun k => spec_OpenClaims.f k n l a) (openV l a) := by
  unfold spec_OpenClaims.f
  have key : ∀ (d i : Nat), i + d = l.length → ∀ s : List Int, s.length ≤ i → Ev (fun k => spec_OpenClaims.l0 k a s (i : Int) n l) (s ++ openV (l.drop i) a) := by
    intro d
    induction d with
    | zero =>
      intro i hi s hs
      rw [List.drop_of_length_le (by omega)]
      refine Ev.step (fun k => by rw [spec_OpenClaims.l0]) ?_
      refine ev_neg (by omega) ?_
      simpa [openV] using Ev.now s
    | succ d ih =>
      intro i hi s hs
      have h : i < l.length := by omega
      rw [List.drop_eq_getElem_cons h, openV_cons]
      refine Ev.step (fun k => by rw [spec_OpenClaims.l0]) ?_
      refine ev_pos (by omega) (ev_pos (by omega) ?_)
      rw [rd_T104, getD_get h, wrap_succ (by omega)]
      by_cases h1 : l[i].f1 = a
      · by_cases h2 : l[i].f5 = 1
        · refine ev_pos h1 (ev_pos h2 (ev_pos (by omega) ?_))
          rw [if_pos ⟨h1, h2⟩]
          have := ih (i + 1) (by omega) (s ++ [l[i].f0]) (by simp; omega)
          simpa using this
        · refine ev_pos h1 (ev_neg h2 ?_)
          rw [if_neg (fun h => h2 h.2)]
          exact ih (i + 1) (by omega) s (by omega)
      · refine ev_neg h1 ?_
        rw [if_neg (fun h => h1 h.1)]
        exact ih (i + 1) (by omega) s (by omega)
  simpa using key l.length 0 (by omega) [] (by simp)

theorem spec_IsValidClaims.out (n : Int) (l : List S104) (i : Int) (c0 c1 c2 c3 c4 c5 : Int) : Ev (fun k => spec_IsValidClaims.j1 k i true n l c0 c1 c2 c3 c4 c5) false := by
  refine Ev.step (fun k => by rw [spec_IsValidClaims.j1]) ?_
  exact ev_pos rfl (Ev.now _)
theorem spec_IsValidClaims.ev (n : Int) (l : List S104) (hl : l.length < 17592186044000) : Ev (fun k => spec_IsValidClaims.f k n l) (validClaimsV n l) := by
  unfold spec_IsValidClaims.f
  have e : validClaimsV n l = dec ((∀ i, i < l.length → claimOk n l i ∧ claimOne l i) ∧ (0 ≤ n ∧ n ≤ 1000000) ∧ l.length ≤ 10) := by
    unfold validClaimsV
    rw [propext (claims_agree n l)]
  rw [e]
  refine scan_all (n := l.length) (fun k i => spec_IsValidClaims.l0 k i n l) (fun i => claimOk n l i ∧ claimOne l i) _ ?_ (fun i hi q r ih => ?_) (fun i hi q => ?_)
  · refine Ev.step (fun k => by rw [spec_IsValidClaims.l0]) (ev_neg (by omega) (ev_bindc (spec_l1In.val _ _ _) ?_))
    by_cases h1 : 0 ≤ n ∧ n ≤ 1000000
    · refine ev_pos (by simpa using h1) (ev_const ?_)
      rw [dec_decide, dec_eq (P := (l.length : Int) ≤ 10) (Q := (0 ≤ n ∧ n ≤ 1000000) ∧ l.length ≤ 10) ⟨fun h => ⟨h1, by omega⟩, fun h => by omega⟩]
    · rw [dec_false (fun h => h1 h.1)]
      exact ev_neg (by simpa using h1) (Ev.now _)
  · have e1 := wrap_in (x := (i : Int) - 1) (show -9223372036854775808 ≤ (i : Int) - 1 by omega) (show (i : Int) - 1 ≤ 9223372036854775807 by omega)
    refine Ev.step (fun k => by rw [spec_IsValidClaims.l0]) (ev_pos (by omega) (ev_pos (by omega) ?_))
    simp only [spec_l1In.val, Option.bind_some, e1, decide_eq_true_eq]
    refine claimChain (J := fun k b => spec_IsValidClaims.j1 k (i : Int) b n l (rd_T104 l i).f0 (rd_T104 l i).f1 (rd_T104 l i).f2 (rd_T104 l i).f3 (rd_T104 l i).f4 (rd_T104 l i).f5) hi (fun _ _ _ _ _ _ => ?_) (fun h => absurd q.1 h)
    refine Ev.step (fun k => by rw [spec_IsValidClaims.j1]) (ev_neg (by simp) ?_)
    rw [wrap_succ (i := i) (by omega)]
    refine ev_both (fun h => Ev.bind (spec_OpenClaims.ev n l _ hl) (ev_neg ?_ ih)) (fun h => ih)
    have := q.2 h
    omega
  · have e1 := wrap_in (x := (i : Int) - 1) (show -9223372036854775808 ≤ (i : Int) - 1 by omega) (show (i : Int) - 1 ≤ 9223372036854775807 by omega)
    refine Ev.step (fun k => by rw [spec_IsValidClaims.l0]) (ev_pos (by omega) (ev_pos (by omega) ?_))
    simp only [spec_l1In.val, Option.bind_some, e1, decide_eq_true_eq]
    refine claimChain (J := fun k b => spec_IsValidClaims.j1 k (i : Int) b n l (rd_T104 l i).f0 (rd_T104 l i).f1 (rd_T104 l i).f2 (rd_T104 l i).f3 (rd_T104 l i).f4 (rd_T104 l i).f5) hi (fun a0 a1 a2 a3 a4 a5 => ?_) (fun _ => spec_IsValidClaims.out n l i _ _ _ _ _ _)
    refine Ev.step (fun k => by rw [spec_IsValidClaims.j1]) (ev_neg (by simp) ?_)
    have no : ¬ claimOne l i := fun h => q ⟨⟨a0, a1, a2, a3, a4, a5⟩, h⟩
    unfold claimOne at no
    by_cases h : (rd_T104 l i).f5 = 1
    · refine ev_pos h (Ev.bind (spec_OpenClaims.ev n l _ hl) (ev_pos ?_ (Ev.now _)))
      have : 1 < (openV l (rd_T104 l i).f1).length := Classical.byContradiction fun h' => no (fun _ => h')
      omega
    · exact absurd (fun h' => absurd h' h) no

theorem spec_ObjectTo.ev (n : Int) (l : List S104) (id t : Int) (hl : l.length < 1000000000) : Ev (fun k => spec_ObjectTo.f k n l id t) (objectV n l id t) := by
  unfold spec_ObjectTo.f objectV
  have r := findClaim_range l id
  refine ev_bindc (spec_l28Copy.val n l (by omega)) (Ev.bind (spec_l28Find.ev n l id (by omega)) (Ev.bind (spec_IsValidClaims.ev n l (by omega)) ?_))
  refine ev_ite (fun _ => ev_ite (fun _ => Ev.now _) (fun _ => ?_)) (fun _ => Ev.now _)
  refine ev_pos (by omega) (ev_pos (by omega) ?_)
  refine ev_ite (fun _ => ev_bindc (spec_l1In.val _ _ _) ?_) (fun _ => Ev.now _)
  simp only [decide_eq_true_eq]
  refine ev_ite (fun _ => ?_) (fun _ => Ev.now _)
  exact ev_pos (by first | omega | (simp only; omega)) (Ev.now _)

noncomputable def completeV (n : Int) (l : List S104) (id t : Int) : Int × List S104 × Int × Bool :=
  if validClaimsV n l = true then (if findClaimV l id < 0 then (n, l, 0, false) else (if (rd_T104 l (findClaimV l id)).f5 = 1 then (if t ≤ (wrap64 (((rd_T104 l (findClaimV l id)).f3) + ((rd_T104 l (findClaimV l id)).f4))) then (n, l, 0, false) else (n, l.set (findClaimV l id).toNat ⟨(rd_T104 l (findClaimV l id)).f0, (rd_T104 l (findClaimV l id)).f1, (rd_T104 l (findClaimV l id)).f2, (rd_T104 l (findClaimV l id)).f3, (rd_T104 l (findClaimV l id)).f4, 3⟩, (rd_T104 l (findClaimV l id)).f2, true)) else (n, l, 0, false))) else (n, l, 0, false)
theorem completeV_length (n : Int) (l : List S104) (id t : Int) : (completeV n l id t).2.1.length = l.length := by
  unfold completeV
  repeat' split
  all_goals simp

theorem spec_CompleteClaim.ev (n : Int) (l : List S104) (id t : Int) (hl : l.length < 1000000000) : Ev (fun k => spec_CompleteClaim.f k n l id t) (completeV n l id t) := by
  unfold spec_CompleteClaim.f completeV
  have r := findClaim_range l id
  refine ev_bindc (spec_l28Copy.val n l (by omega)) (Ev.bind (spec_l28Find.ev n l id (by omega)) (Ev.bind (spec_IsValidClaims.ev n l (by omega)) ?_))
  refine ev_ite (fun _ => ev_ite (fun _ => Ev.now _) (fun _ => ?_)) (fun _ => Ev.now _)
  refine ev_pos (by omega) (ev_pos (by omega) ?_)
  refine ev_ite (fun _ => ev_ite (fun _ => Ev.now _) (fun _ => ?_)) (fun _ => Ev.now _)
  exact ev_pos (by first | omega | (simp only; omega)) (Ev.now _)

def publicKeyV (a : Int) : Int := if 1 ≤ a ∧ a ≤ 2147483646 then a * 48271 % 2147483647 else 0
theorem publicKeyV_range (a : Int) : 0 ≤ publicKeyV a ∧ publicKeyV a ≤ 2147483646 := by
  unfold publicKeyV
  split <;> omega

def privateKeyV (a : Int) : Int := if 1 ≤ a ∧ a ≤ 2147483646 then a * 1899818559 % 2147483647 else 0
theorem privateKeyV_range (a : Int) : 0 ≤ privateKeyV a ∧ privateKeyV a ≤ 2147483646 := by
  unfold privateKeyV
  split <;> omega
theorem private_ne (a : Int) : privateKeyV a = 0 ↔ ¬ (1 ≤ a ∧ a ≤ 2147483646) := by
  unfold privateKeyV
  split <;> omega
theorem public_private (a : Int) (h : 1 ≤ a ∧ a ≤ 2147483646) : publicKeyV (privateKeyV a) = a := by
  have h1 : privateKeyV a = a * 1899818559 % 2147483647 := if_pos h
  have h2 : 1 ≤ privateKeyV a ∧ privateKeyV a ≤ 2147483646 := by omega
  unfold publicKeyV
  rw [if_pos h2, h1]
  omega
theorem private_public (a : Int) (h : 1 ≤ a ∧ a ≤ 2147483646) : privateKeyV (publicKeyV a) = a := by
  have h1 : publicKeyV a = a * 48271 % 2147483647 := if_pos h
  have h2 : 1 ≤ publicKeyV a ∧ publicKeyV a ≤ 2147483646 := by omega
  unfold privateKeyV
  rw [if_pos h2, h1]
  omega

noncomputable def fileV (n : Int) (l : List S104) (a1 a2 a3 a4 : Int) : Int × List S104 × Bool :=
  if validClaimsV n l = true then (if privateKeyV a2 = 0 then (n, l, false) else (if validClaimsV (wrap64 (n + 1)) (l ++ [⟨n, a1, a2, a3, a4, 1⟩]) = true then (wrap64 (n + 1), l ++ [⟨n, a1, a2, a3, a4, 1⟩], true) else (n, l, false))) else (n, l, false)
theorem fileV_length (n : Int) (l : List S104) (a1 a2 a3 a4 : Int) : (fileV n l a1 a2 a3 a4).2.1.length ≤ l.length + 1 := by
  unfold fileV
  by_cases h1 : validClaimsV n l = true
  · rw [if_pos h1]
    by_cases h2 : privateKeyV a2 = 0
    · rw [if_pos h2]; simp
    · rw [if_neg h2]
      by_cases h3 : validClaimsV (wrap64 (n + 1)) (l ++ [⟨n, a1, a2, a3, a4, 1⟩]) = true
      · rw [if_pos h3]; simp
      · rw [if_neg h3]; simp
  · rw [if_neg h1]; simp

theorem spec_l6Power.ev : Ev (fun k => spec_l6Power.f k 48271 2147483645) 1899818559 :=
  Ev.of (k := 40) (fun k => spec_l6Power.mono _ _ k) (by decide +kernel)

theorem spec_IsValidKey.val (a : Int) : spec_IsValidKey.f a = some (decide (1 ≤ a ∧ a ≤ 2147483646)) := by
  unfold spec_IsValidKey.f
  rw [spec_l1In.val]
  rfl

theorem spec_PublicKey.val (a : Int) : spec_PublicKey.f a = some (publicKeyV a) := by
  unfold spec_PublicKey.f publicKeyV
  rw [spec_IsValidKey.val]
  simp only [Option.bind_some, decide_eq_true_eq]
  by_cases h : 1 ≤ a ∧ a ≤ 2147483646
  · rw [if_pos h, if_pos h, wrap_in (by omega) (by omega), Int.tmod_eq_emod_of_nonneg (by omega)]
  · rw [if_neg h, if_neg h]

theorem spec_PrivateKey.ev (a : Int) : Ev (fun k => spec_PrivateKey.f k a) (privateKeyV a) := by
  unfold spec_PrivateKey.f
  rw [spec_l1In.val]
  simp only [Option.bind_some, decide_eq_true_eq]
  by_cases h : 1 ≤ a ∧ a ≤ 2147483646
  · have e : privateKeyV a = a * 1899818559 % 2147483647 := if_pos h
    refine ev_pos h (Ev.bind spec_l6Power.ev ?_)
    rw [wrap_in (by omega) (by omega), Int.tmod_eq_emod_of_nonneg (by omega), ← e]
    refine ev_bindc (spec_PublicKey.val _) (ev_pos (public_private a h) (Ev.now _))
  · refine ev_neg h ?_
    rw [(private_ne a).2 h]
    exact Ev.now _

theorem spec_FileClaim.ev (n : Int) (l : List S104) (a1 a2 a3 a4 : Int) (hl : l.length < 1000000000) : Ev (fun k => spec_FileClaim.f k n l a1 a2 a3 a4) (fileV n l a1 a2 a3 a4) := by
  unfold spec_FileClaim.f
  refine ev_bindc (spec_l28Copy.val n l (by omega)) (ev_pos (by simp only; omega) ?_)
  simp only [Option.bind_some]
  have hn : (l ++ [(⟨n, a1, a2, a3, a4, 1⟩ : S104)]).length = l.length + 1 := by simp
  have bad : Ev (fun k => (spec_l28Copy.f n l).bind fun bt => some (bt.1, bt.2, false)) (n, l, false) := ev_bindc (spec_l28Copy.val n l (by omega)) (Ev.now _)
  unfold fileV
  refine Ev.bind (spec_IsValidClaims.ev n l (by omega)) (ev_ite (fun _ => ?_) (fun _ => bad))
  by_cases h2 : privateKeyV a2 = 0
  · rw [if_pos h2]
    refine Ev.bind (spec_IsValidClaims.ev (wrap64 (n + 1)) (l ++ [⟨n, a1, a2, a3, a4, 1⟩]) (by omega)) (ev_both (fun _ => ?_) (fun _ => bad))
    exact Ev.bind (spec_PrivateKey.ev _) (ev_pos h2 bad)
  · rw [if_neg h2]
    refine Ev.bind (spec_IsValidClaims.ev (wrap64 (n + 1)) (l ++ [⟨n, a1, a2, a3, a4, 1⟩]) (by omega)) (ev_ite (fun _ => ?_) (fun _ => bad))
    exact Ev.bind (spec_PrivateKey.ev _) (ev_neg h2 (Ev.now _))

theorem spec_l28List.draw (b : List Int) (p h : Int) (hb : b.length ≤ 1048576) (hp : 0 ≤ p) : ∃ n l q g, Ev (fun k => spec_l28List.f k b p h) (n, l, q, g) ∧ l.length ≤ 50 ∧ 0 ≤ q := by
  have l0 : ∀ (d : Nat) (n : Int) (l : List S104) (p h : Int), 0 ≤ p → l.length + d ≤ 50 → ∃ n' l' q g, Ev (fun k => spec_l28List.l0 k (d : Int) b p h n l) (n', l', q, g) ∧ l'.length ≤ 50 ∧ 0 ≤ q := by
    intro d
    induction d with
    | zero =>
      intro n l p h hp hl
      refine ⟨n, l, p, h, ?_, by omega, hp⟩
      refine Ev.step (fun k => by rw [spec_l28List.l0]) ?_
      exact ev_neg (by omega) (Ev.now _)
    | succ d ih =>
      intro n l p h hp hl
      have w : wrap64 (((d + 1 : Nat) : Int) - 1) = (d : Int) := by rw [wrap_in (by omega) (by omega)]; omega
      obtain ⟨x, q, g, e, _, _, q0⟩ := spec_l1Below.draw b p h 5 hb hp (by omega)
      obtain ⟨x1, q1, g1, e1, _, _, q10⟩ := spec_l1Below.draw b q g 6 hb q0 (by omega)
      by_cases c0 : x = 0
      · obtain ⟨x2, q2, g2, e2, _, _, q20⟩ := spec_l1Below.draw b q1 g1 60 hb q10 (by omega)
        have es := spec_ObjectTo.ev n l x1 (wrap64 (5 + x2)) (by omega)
        have hv := objectV_length n l x1 (wrap64 (5 + x2))
        generalize objectV n l x1 (wrap64 (5 + x2)) = v at es hv
        obtain ⟨n', l', q', g', e', h1, h2⟩ := ih v.1 v.2.1 q2 g2 q20 (by omega)
        refine ⟨n', l', q', g', ?_, h1, h2⟩
        refine Ev.step (fun k => by rw [spec_l28List.l0]) ?_
        rw [w]
        exact ev_pos (by omega) (ev_bindc e (ev_pos c0 (ev_bindc e1 (ev_bindc e2 (Ev.bind es e')))))
      · by_cases c1 : x = 1
        · obtain ⟨x2, q2, g2, e2, _, _, q20⟩ := spec_l1Below.draw b q1 g1 120 hb q10 (by omega)
          have es := spec_CompleteClaim.ev n l x1 (wrap64 (20 + x2)) (by omega)
          have hv := completeV_length n l x1 (wrap64 (20 + x2))
          generalize completeV n l x1 (wrap64 (20 + x2)) = v at es hv
          obtain ⟨n', l', q', g', e', h1, h2⟩ := ih v.1 v.2.1 q2 g2 q20 (by omega)
          refine ⟨n', l', q', g', ?_, h1, h2⟩
          refine Ev.step (fun k => by rw [spec_l28List.l0]) ?_
          rw [w]
          exact ev_pos (by omega) (ev_bindc e (ev_neg c0 (ev_pos c1 (ev_bindc e1 (ev_bindc e2 (Ev.bind es e'))))))
        · obtain ⟨x2, q2, g2, e2, _, _, q20⟩ := spec_l1Below.draw b q1 g1 50 hb q10 (by omega)
          obtain ⟨x3, q3, g3, e3, _, _, q30⟩ := spec_l1Below.draw b q2 g2 30 hb q20 (by omega)
          obtain ⟨x4, q4, g4, e4, _, q40⟩ := spec_l1Int.draw b q3 g3 [30, 90] hb q30 (by simp) (by simp)
          have es := spec_FileClaim.ev n l x1 (publicKeyV (wrap64 (1 + x2))) x3 x4 (by omega)
          have hv := fileV_length n l x1 (publicKeyV (wrap64 (1 + x2))) x3 x4
          generalize fileV n l x1 (publicKeyV (wrap64 (1 + x2))) x3 x4 = v at es hv
          obtain ⟨n', l', q', g', e', h1, h2⟩ := ih v.1 v.2.1 q4 g4 q40 (by omega)
          refine ⟨n', l', q', g', ?_, h1, h2⟩
          refine Ev.step (fun k => by rw [spec_l28List.l0]) ?_
          rw [w]
          exact ev_pos (by omega) (ev_bindc e (ev_neg c0 (ev_neg c1 (ev_bindc e1 (ev_bindc e2 (ev_bindc (spec_PublicKey.val _) (ev_bindc e3 (ev_bindc e4 (Ev.bind es e')))))))))
  unfold spec_l28List.f
  obtain ⟨x, q, g, e, hx, q0⟩ := spec_l1Int.draw b p h [0, 2, 5, 20] hb hp (by simp) (by simp)
  have hx' : 0 ≤ x ∧ x ≤ 20 := by
    simp only [List.mem_cons, List.not_mem_nil, or_false] at hx
    omega
  obtain ⟨n', l', q', g', e', h1, h2⟩ := l0 x.toNat 0 [] q g q0 (by simp; omega)
  rw [Int.toNat_of_nonneg hx'.1] at e'
  exact ⟨n', l', q', g', ev_bindc e e', h1, h2⟩

theorem spec_l1Once.draw (b : List Int) (p h n : Int) (hb : b.length ≤ 1048576) (hp : 0 ≤ p) (hn : n ≤ 256) : ∃ x q g, spec_l1Once.f b p h n = some (x, q, g) ∧ 0 ≤ q := by
  unfold spec_l1Once.f
  obtain ⟨x, q, g, e, _, _, q0⟩ := spec_l1Below.draw b p h n hb hp hn
  rw [e]
  exact ⟨_, _, _, rfl, q0⟩

theorem spec_l1Below.drawBig (b : List Int) (p h n : Int) (hb : b.length ≤ 1048576) (hp : 0 ≤ p) (hn : 256 < n) : ∃ x q g, spec_l1Below.f b p h n = some (x, q, g) ∧ 0 ≤ q := by
  unfold spec_l1Below.f
  rw [if_neg (by omega), if_neg (by omega)]
  obtain ⟨x, q, g, e, _, _, q0⟩ := spec_l1Byte.draw b p h hb hp
  obtain ⟨x1, q1, g1, e1, _, _, q10⟩ := spec_l1Byte.draw b q g hb q0
  obtain ⟨x2, q2, g2, e2, _, _, q20⟩ := spec_l1Byte.draw b q1 g1 hb q10
  rw [e]
  simp only [Option.bind_some]
  rw [e1]
  simp only [Option.bind_some]
  rw [e2]
  simp only [Option.bind_some]
  rw [if_neg (by omega)]
  exact ⟨_, _, _, rfl, q20⟩
theorem spec_l6Key.draw (b : List Int) (p h : Int) (hb : b.length ≤ 1048576) (hp : 0 ≤ p) : ∃ x q g, spec_l6Key.f b p h = some (x, q, g) ∧ 0 ≤ q := by
  unfold spec_l6Key.f
  obtain ⟨c, q, g, e, q0⟩ := spec_l1Once.draw b p h 10 hb hp (by omega)
  rw [e]
  simp only [Option.bind_some]
  cases c
  · obtain ⟨x, q1, g1, e1, q10⟩ := spec_l1Below.drawBig b q g 99999 hb q0 (by omega)
    rw [if_neg (by simp), e1]
    exact ⟨_, _, _, rfl, q10⟩
  · obtain ⟨x, q1, g1, e1, _, q10⟩ := spec_l1Int.draw b q g [0, (-1), 1, 2147483646, 2147483647] hb q0 (by simp) (by simp)
    rw [if_pos rfl, e1]
    exact ⟨_, _, _, rfl, q10⟩

theorem spec_l1New.draw (l : List Int) (hl : l.length ≤ 1048576) : ∃ h, Ev (fun k => spec_l1New.f k l) (l, 0, h) := by
  unfold spec_l1New.f
  have key : ∀ (d i : Nat), i + d = min l.length 4000 → ∀ h, ∃ h', Ev (fun k => spec_l1New.l0 k l h (i : Int)) (l, 0, h') := by
    intro d
    induction d with
    | zero =>
      intro i hi h
      refine ⟨h, Ev.step (fun k => by rw [spec_l1New.l0]) ?_⟩
      exact ev_both (fun _ => ev_both (fun _ => by omega) (fun _ => Ev.now _)) (fun _ => Ev.now _)
    | succ d ih =>
      intro i hi h
      obtain ⟨h', e⟩ := ih (i + 1) (by omega) (Go.bits .and .i64 (wrap64 ((wrap64 ((wrap64 (h * 137)) + (wrap64 (rd l (i : Int))))) + 11)) 1073741823)
      refine ⟨h', Ev.step (fun k => by rw [spec_l1New.l0]) ?_⟩
      rw [wrap_succ (i := i) (by omega)]
      exact ev_pos (by omega) (ev_pos (by omega) (ev_pos (by omega) e))
  exact key (min l.length 4000) 0 (by omega) _

theorem spec_l28Any.draw (b : List Int) (p h : Int) (hb : b.length ≤ 1048576) (hp : 0 ≤ p) : ∃ n l q g, Ev (fun k => spec_l28Any.f k b p h) (n, l, q, g) ∧ l.length ≤ 60 ∧ 0 ≤ q := by
  unfold spec_l28Any.f
  obtain ⟨n, l, q, g, e, hl, q0⟩ := spec_l28List.draw b p h hb hp
  obtain ⟨x, q1, g1, e1, _, _, q10⟩ := spec_l1Below.draw b q g 10 hb q0 (by omega)
  by_cases c0 : x = 0
  · obtain ⟨y, q2, g2, e2, _, q20⟩ := spec_l1Int.draw b q1 g1 [(-1), 0, 1000000, 1000001] hb q10 (by simp) (by simp)
    exact ⟨y, l, q2, g2, Ev.bind e (ev_bindc e1 (ev_pos c0 (ev_bindc e2 (Ev.now _)))), by omega, q20⟩
  · by_cases c1 : x = 1
    · obtain ⟨y2, q2, g2, e2, _, _, q20⟩ := spec_l1Below.draw b q1 g1 9 hb q10 (by omega)
      obtain ⟨y3, q3, g3, e3, _, _, q30⟩ := spec_l1Below.draw b q2 g2 6 hb q20 (by omega)
      obtain ⟨y4, q4, g4, e4, _, q40⟩ := spec_l1Int.draw b q3 g3 [(-1), 5, 1000001] hb q30 (by simp) (by simp)
      obtain ⟨y5, q5, g5, e5, _, q50⟩ := spec_l1Int.draw b q4 g4 [30, 31] hb q40 (by simp) (by simp)
      obtain ⟨y6, q6, g6, e6, _, _, q60⟩ := spec_l1Below.draw b q5 g5 5 hb q50 (by omega)
      exact ⟨n, l ++ [⟨wrap64 (y2 - 1), y3, 0, y4, y5, y6⟩], q6, g6, Ev.bind e (ev_bindc e1 (ev_neg c0 (ev_pos c1 (ev_bindc e2 (ev_bindc e3 (ev_bindc e4 (ev_bindc e5 (ev_bindc e6 (ev_pos (show l.length < 2932031007402 by omega) (Ev.now _)))))))))), by simp; omega, q60⟩
    · exact ⟨n, l, q1, g1, Ev.bind e (ev_bindc e1 (ev_neg c0 (ev_neg c1 (Ev.now _)))), by omega, q10⟩
theorem spec_DrawFileClaim.draw (b : List Int) (hb : b.length ≤ 1048576) : ∃ n l x y z v, Ev (fun k => spec_DrawFileClaim.f k b) (n, l, x, y, z, v) ∧ l.length ≤ 60 := by
  unfold spec_DrawFileClaim.f
  obtain ⟨h, e⟩ := spec_l1New.draw b hb
  obtain ⟨n, l, q, g, e1, hl, q0⟩ := spec_l28Any.draw b 0 h hb (by omega)
  obtain ⟨x2, q2, g2, e2, _, q20⟩ := spec_l1Int.draw b q g [0, 1, 5, (-1), 1000000, 1000001] hb q0 (by simp) (by simp)
  obtain ⟨x3, q3, g3, e3, q30⟩ := spec_l6Key.draw b q2 g2 hb q20
  obtain ⟨x4, q4, g4, e4, _, q40⟩ := spec_l1Int.draw b q3 g3 [0, 9, 1000000, 1000001, (-1)] hb q30 (by simp) (by simp)
  obtain ⟨x5, q5, g5, e5, _, q50⟩ := spec_l1Int.draw b q4 g4 [30, 90, 90, 0] hb q40 (by simp) (by simp)
  exact ⟨n, l, x2, publicKeyV x3, x4, x5, Ev.bind e (Ev.bind e1 (ev_bindc e2 (ev_bindc e3 (ev_bindc (spec_PublicKey.val _) (ev_bindc e4 (ev_bindc e5 (Ev.now _))))))), hl⟩

theorem impl_copyClaims.val (n : Int) (l : List S104) (hl : l.length < 2932031007402) : impl_copyClaims.f n l = some (n, l) := by
  unfold impl_copyClaims.f
  simp only [Option.bind_some, List.nil_append, List.length_nil]
  rw [if_pos (by omega)]

theorem impl_InRange.val (a b c : Int) : impl_InRange.f a b c = some (decide (b ≤ a ∧ a ≤ c)) := by
  unfold impl_InRange.f
  by_cases h : b ≤ a
  · rw [if_pos h]; simp [h]
  · rw [if_neg h]; simp [h]

theorem impl_IsValidClaims.inner (n : Int) (l : List S104) (hl : l.length < 4611686018427387904) (i : Nat) (hi : i < l.length) (c0 c2 c3 c4 : Int) : ∀ j, j < i → ¬ claimTwo l i j → ∀ r, Ev (fun k => impl_IsValidClaims.l1 k l l.length i (l.take i) (l.take i).length ((j + 1 : Nat) : Int) n l c0 (rd_T104 l i).f1 c2 c3 c4 (rd_T104 l i).f5) r → Ev (fun k => impl_IsValidClaims.l1 k l l.length i (l.take i) (l.take i).length (j : Int) n l c0 (rd_T104 l i).f1 c2 c3 c4 (rd_T104 l i).f5) r := by
  intro j hj q r ih
  have e : rd_T104 (l.take i) (j : Int) = rd_T104 l (j : Int) := by
    unfold rd_T104
    rw [getD_get (by rw [List.length_take]; omega), getD_get (by omega), List.getElem_take]
  have m : (l.take i).length = i := by rw [List.length_take]; omega
  refine Ev.step (fun k => by rw [impl_IsValidClaims.l1]) ?_
  rw [wrap_succ (i := j) (by omega), e]
  refine ev_pos (by omega) (ev_pos (by omega) (ev_pos (by omega) ?_))
  exact ev_both (fun h1 => ev_both (fun h2 => ev_neg (fun h3 => q ⟨h1, h2, h3⟩) ih) (fun _ => ih)) (fun _ => ih)
theorem impl_IsValidClaims.miss (n : Int) (l : List S104) (hl : l.length < 4611686018427387904) (i : Nat) (hi : i < l.length) (c0 c2 c3 c4 : Int) (h : ∀ j, j < i → ¬ claimTwo l i j) (r : Bool) (ih : Ev (fun k => impl_IsValidClaims.l0 k l l.length ((i + 1 : Nat) : Int) n l) r) : Ev (fun k => impl_IsValidClaims.j2 k (i : Int) l l.length i false n l c0 (rd_T104 l i).f1 c2 c3 c4 (rd_T104 l i).f5) r := by
  have m : (l.take i).length = i := by rw [List.length_take]; omega
  refine Ev.step (fun k => by rw [impl_IsValidClaims.j2]) (ev_neg (by simp) (ev_pos (by omega) (ev_pos (by omega) ?_)))
  simp only [Int.toNat_natCast, Option.bind_some]
  refine scan_miss (n := i) (fun k j => impl_IsValidClaims.l1 k l l.length i (l.take i) (l.take i).length j n l c0 (rd_T104 l i).f1 c2 c3 c4 (rd_T104 l i).f5) (claimTwo l i) r ?_ (impl_IsValidClaims.inner n l hl i hi c0 c2 c3 c4) h
  refine Ev.step (fun k => by rw [impl_IsValidClaims.l1]) ?_
  rw [wrap_succ (i := i) (by omega)]
  exact ev_neg (by omega) ih
theorem impl_IsValidClaims.hit (n : Int) (l : List S104) (hl : l.length < 4611686018427387904) (i : Nat) (hi : i < l.length) (c0 c2 c3 c4 : Int) (h : ∃ j, j < i ∧ claimTwo l i j) : Ev (fun k => impl_IsValidClaims.j2 k (i : Int) l l.length i false n l c0 (rd_T104 l i).f1 c2 c3 c4 (rd_T104 l i).f5) false := by
  have m : (l.take i).length = i := by rw [List.length_take]; omega
  refine Ev.step (fun k => by rw [impl_IsValidClaims.j2]) (ev_neg (by simp) (ev_pos (by omega) (ev_pos (by omega) ?_)))
  simp only [Int.toNat_natCast, Option.bind_some]
  refine scan_hit (n := i) (fun k j => impl_IsValidClaims.l1 k l l.length i (l.take i) (l.take i).length j n l c0 (rd_T104 l i).f1 c2 c3 c4 (rd_T104 l i).f5) (claimTwo l i) false (impl_IsValidClaims.inner n l hl i hi c0 c2 c3 c4) (fun j hj q => ?_) h
  have e2 : rd_T104 (l.take i) (j : Int) = rd_T104 l (j : Int) := by
    unfold rd_T104
    rw [getD_get (by rw [List.length_take]; omega), getD_get (by omega), List.getElem_take]
  refine Ev.step (fun k => by rw [impl_IsValidClaims.l1]) ?_
  rw [e2]
  exact ev_pos (by omega) (ev_pos (by omega) (ev_pos (by omega) (ev_pos q.1 (ev_pos q.2.1 (ev_pos q.2.2 (Ev.now _))))))
theorem impl_IsValidClaims.out (n : Int) (l : List S104) (i m : Int) (c0 c1 c2 c3 c4 c5 : Int) : Ev (fun k => impl_IsValidClaims.j2 k i l m i true n l c0 c1 c2 c3 c4 c5) false := by
  refine Ev.step (fun k => by rw [impl_IsValidClaims.j2]) ?_
  exact ev_pos rfl (Ev.now _)
theorem impl_IsValidClaims.ev (n : Int) (l : List S104) (hl : l.length < 4611686018427387904) : Ev (fun k => impl_IsValidClaims.f k n l) (validClaimsV n l) := by
  unfold impl_IsValidClaims.f
  have no : ¬ ((0 ≤ n ∧ n ≤ 1000000) ∧ l.length ≤ 10) → Ev (fun k => impl_IsValidClaims.j0 k true n l) (validClaimsV n l) := by
    intro h
    unfold validClaimsV
    rw [dec_false (fun g => h g.2)]
    refine Ev.step (fun k => by rw [impl_IsValidClaims.j0]) ?_
    exact ev_pos rfl (Ev.now _)
  refine ev_bindc (impl_InRange.val _ _ _) ?_
  by_cases h1 : 0 ≤ n ∧ n ≤ 1000000
  rotate_left
  · exact ev_neg (by simpa using h1) (no (fun h => h1 h.1))
  refine ev_pos (by simpa using h1) ?_
  by_cases h3 : l.length ≤ 10
  rotate_left
  · rw [decide_eq_true (show (l.length : Int) > 10 by omega)]
    exact no (fun h => h3 h.2)
  rw [decide_eq_false (show ¬ (l.length : Int) > 10 by omega)]
  refine Ev.step (fun k => by rw [impl_IsValidClaims.j0]) (ev_neg (by simp) ?_)
  unfold validClaimsV
  refine scan_all (n := l.length) (fun k i => impl_IsValidClaims.l0 k l l.length i n l) (fun i => claimOk n l i ∧ ∀ j, j < i → ¬ claimTwo l i j) _ ?_ (fun i hi q r ih => ?_) (fun i hi q => ?_)
  · refine Ev.step (fun k => by rw [impl_IsValidClaims.l0]) (ev_neg (by omega) ?_)
    rw [dec_true ⟨h1, h3⟩]
    exact Ev.now _
  · have e1 := wrap_in (x := (i : Int) - 1) (show -9223372036854775808 ≤ (i : Int) - 1 by omega) (show (i : Int) - 1 ≤ 9223372036854775807 by omega)
    refine Ev.step (fun k => by rw [impl_IsValidClaims.l0]) (ev_pos (by omega) (ev_pos (by omega) (ev_pos (by omega) ?_)))
    simp only [impl_InRange.val, Option.bind_some, e1, decide_eq_true_eq]
    refine claimChain (J := fun k b => impl_IsValidClaims.j2 k (i : Int) l l.length i b n l (rd_T104 l i).f0 (rd_T104 l i).f1 (rd_T104 l i).f2 (rd_T104 l i).f3 (rd_T104 l i).f4 (rd_T104 l i).f5) hi (fun _ _ _ _ _ _ => ?_) (fun h => absurd q.1 h)
    exact impl_IsValidClaims.miss n l hl i hi _ _ _ _ q.2 r ih
  · have e1 := wrap_in (x := (i : Int) - 1) (show -9223372036854775808 ≤ (i : Int) - 1 by omega) (show (i : Int) - 1 ≤ 9223372036854775807 by omega)
    refine Ev.step (fun k => by rw [impl_IsValidClaims.l0]) (ev_pos (by omega) (ev_pos (by omega) (ev_pos (by omega) ?_)))
    simp only [impl_InRange.val, Option.bind_some, e1, decide_eq_true_eq]
    refine claimChain (J := fun k b => impl_IsValidClaims.j2 k (i : Int) l l.length i b n l (rd_T104 l i).f0 (rd_T104 l i).f1 (rd_T104 l i).f2 (rd_T104 l i).f3 (rd_T104 l i).f4 (rd_T104 l i).f5) hi (fun a0 a1 a2 a3 a4 a5 => ?_) (fun _ => impl_IsValidClaims.out n l i _ _ _ _ _ _ _)
    refine impl_IsValidClaims.hit n l hl i hi _ _ _ _ ?_
    exact Classical.byContradiction fun no => q ⟨⟨a0, a1, a2, a3, a4, a5⟩, fun j hj t => no ⟨j, hj, t⟩⟩

theorem impl_power.evM : Ev (fun k => impl_power.f k 48271 2147483645 2147483647) 1899818559 :=
  Ev.of (k := 40) (fun k => impl_power.mono _ _ _ k) (by decide +kernel)

theorem impl_IsValidKey.val (a : Int) : impl_IsValidKey.f a = some (decide (1 ≤ a ∧ a ≤ 2147483646)) := by
  unfold impl_IsValidKey.f
  rw [impl_InRange.val]
  rfl

theorem impl_PrivateKey.ev (a : Int) : Ev (fun k => impl_PrivateKey.f k a) (privateKeyV a) := by
  unfold impl_PrivateKey.f
  rw [impl_IsValidKey.val]
  simp only [Option.bind_some, decide_eq_true_eq]
  by_cases h : 1 ≤ a ∧ a ≤ 2147483646
  · have e : privateKeyV a = a * 1899818559 % 2147483647 := if_pos h
    refine ev_pos h (Ev.bind impl_power.evM ?_)
    rw [wrap_in (by omega) (by omega), Int.tmod_eq_emod_of_nonneg (by omega), ← e]
    exact Ev.now _
  · refine ev_neg h ?_
    rw [(private_ne a).2 h]
    exact Ev.now _

theorem impl_FileClaim.ev (n : Int) (l : List S104) (a1 a2 a3 a4 : Int) (hl : l.length < 1000000000) : Ev (fun k => impl_FileClaim.f k n l a1 a2 a3 a4) (fileV n l a1 a2 a3 a4) := by
  unfold impl_FileClaim.f
  have hn : (l ++ [(⟨n, a1, a2, a3, a4, 1⟩ : S104)]).length = l.length + 1 := by simp
  have bad : Ev (fun k => (impl_copyClaims.f n l).bind fun bt => some (bt.1, bt.2, false)) (n, l, false) := ev_bindc (impl_copyClaims.val n l (by omega)) (Ev.now _)
  have out : Ev (fun k => impl_FileClaim.j0 k a1 a2 a3 a4 true n l) (n, l, false) := Ev.step (fun k => by rw [impl_FileClaim.j0]) (ev_pos rfl bad)
  unfold fileV
  refine Ev.bind (impl_IsValidClaims.ev n l (by omega)) (ev_ite (fun _ => ?_) (fun _ => out))
  refine Ev.bind (impl_PrivateKey.ev _) ?_
  by_cases h2 : privateKeyV a2 = 0
  · rw [if_pos h2, show (privateKeyV a2 == 0) = true by simpa using h2]
    exact out
  · rw [if_neg h2, show (privateKeyV a2 == 0) = false by simpa using h2]
    refine Ev.step (fun k => by rw [impl_FileClaim.j0]) (ev_neg (by simp) ?_)
    refine ev_bindc (impl_copyClaims.val n l (by omega)) (ev_pos (by simp only; omega) ?_)
    simp only [Option.bind_some]
    exact Ev.bind (impl_IsValidClaims.ev (wrap64 (n + 1)) (l ++ [⟨n, a1, a2, a3, a4, 1⟩]) (by omega)) (ev_ite (fun _ => Ev.now _) (fun _ => bad))

def dueV (l : List S104) (id : Int) : Int := if findClaimV l id < 0 then -1 else wrap64 ((wrap64 (((rd_T104 l (findClaimV l id)).f3) + ((rd_T104 l (findClaimV l id)).f4))) + 1)

theorem impl_findClaim.ev (n : Int) (l : List S104) (id : Int) (hl : l.length < 4611686018427387904) : Ev (fun k => impl_findClaim.f k n l id) (findClaimV l id) := by
  unfold impl_findClaim.f findClaimV
  have key : ∀ (d i : Nat), i + d = l.length → Ev (fun k => impl_findClaim.l0 k id l l.length (i : Int)) (findClaimGo id (l.drop i) i) := by
    intro d
    induction d with
    | zero =>
      intro i hi
      rw [List.drop_of_length_le (by omega)]
      refine Ev.step (fun k => by rw [impl_findClaim.l0]) ?_
      exact ev_neg (by omega) (Ev.now _)
    | succ d ih =>
      intro i hi
      have h : i < l.length := by omega
      rw [List.drop_eq_getElem_cons h]
      refine Ev.step (fun k => by rw [impl_findClaim.l0]) ?_
      refine ev_pos (by omega) (ev_pos (by omega) (ev_pos (by omega) ?_))
      rw [rd_T104, getD_get h, wrap_succ (by omega)]
      exact ev_ite (fun _ => Ev.now _) (fun _ => ih (i + 1) (by omega))
  simpa using key l.length 0 (by omega)

theorem impl_DueAt.ev (n : Int) (l : List S104) (id : Int) (hl : l.length < 4611686018427387904) : Ev (fun k => impl_DueAt.f k n l id) (dueV l id) := by
  unfold impl_DueAt.f dueV
  have r := findClaim_range l id
  refine Ev.bind (impl_findClaim.ev n l id hl) (ev_ite (fun _ => Ev.now _) (fun _ => ?_))
  exact ev_pos (by omega) (ev_pos (by omega) (Ev.now _))

theorem impl_CompleteClaim.ev (n : Int) (l : List S104) (id t : Int) (hl : l.length < 1000000000) : Ev (fun k => impl_CompleteClaim.f k n l id t) (completeV n l id t) := by
  unfold impl_CompleteClaim.f completeV
  have r := findClaim_range l id
  refine ev_bindc (impl_copyClaims.val n l (by omega)) (Ev.bind (impl_findClaim.ev n l id (by omega)) (Ev.bind (impl_IsValidClaims.ev n l (by omega)) ?_))
  refine ev_ite (fun _ => ev_ite (fun _ => Ev.now _) (fun _ => ?_)) (fun _ => Ev.now _)
  refine ev_pos (by omega) (ev_pos (by omega) ?_)
  refine ev_ite (fun _ => ev_ite (fun _ => Ev.now _) (fun _ => ?_)) (fun _ => Ev.now _)
  exact ev_pos (by first | omega | (simp only; omega)) (Ev.now _)

theorem impl_ObjectTo.ev (n : Int) (l : List S104) (id t : Int) (hl : l.length < 1000000000) : Ev (fun k => impl_ObjectTo.f k n l id t) (objectV n l id t) := by
  unfold impl_ObjectTo.f objectV
  have r := findClaim_range l id
  refine ev_bindc (impl_copyClaims.val n l (by omega)) (Ev.bind (impl_findClaim.ev n l id (by omega)) (Ev.bind (impl_IsValidClaims.ev n l (by omega)) ?_))
  refine ev_ite (fun _ => ev_ite (fun _ => Ev.now _) (fun _ => ?_)) (fun _ => Ev.now _)
  refine ev_pos (by omega) (ev_pos (by omega) ?_)
  refine ev_ite (fun _ => ev_bindc (impl_InRange.val _ _ _) ?_) (fun _ => Ev.now _)
  simp only [decide_eq_true_eq]
  refine ev_ite (fun _ => ?_) (fun _ => Ev.now _)
  exact ev_pos (by first | omega | (simp only; omega)) (Ev.now _)

theorem impl_OpenClaims.ev (n : Int) (l : List S104) (a : Int) (hl : l.length < 17592186044000) : Ev (fun k => impl_OpenClaims.f k n l a) (openV l a) := by
  unfold impl_OpenClaims.f
  have key : ∀ (d i : Nat), i + d = l.length → ∀ s : List Int, s.length ≤ i → Ev (fun k => impl_OpenClaims.l0 k a s l l.length (i : Int)) (s ++ openV (l.drop i) a) := by
    intro d
    induction d with
    | zero =>
      intro i hi s hs
      rw [List.drop_of_length_le (by omega)]
      refine Ev.step (fun k => by rw [impl_OpenClaims.l0]) ?_
      refine ev_neg (by omega) ?_
      simpa [openV] using Ev.now s
    | succ d ih =>
      intro i hi s hs
      have h : i < l.length := by omega
      rw [List.drop_eq_getElem_cons h, openV_cons]
      refine Ev.step (fun k => by rw [impl_OpenClaims.l0]) ?_
      refine ev_pos (by omega) (ev_pos (by omega) (ev_pos (by omega) ?_))
      rw [rd_T104, getD_get h, wrap_succ (by omega)]
      by_cases h2 : l[i].f5 = 1
      · by_cases h1 : l[i].f1 = a
        · refine ev_pos h2 (ev_pos h1 (ev_pos (by omega) ?_))
          rw [if_pos ⟨h1, h2⟩]
          have := ih (i + 1) (by omega) (s ++ [l[i].f0]) (by simp; omega)
          simpa using this
        · refine ev_pos h2 (ev_neg h1 ?_)
          rw [if_neg (fun h => h1 h.1)]
          exact ih (i + 1) (by omega) s (by omega)
      · refine ev_neg h2 ?_
        rw [if_neg (fun h => h2 h.2)]
        exact ih (i + 1) (by omega) s (by omega)
  simpa using key l.length 0 (by omega) [] (by simp)

def claimSame (l m : List S104) (i : Nat) : Prop := (rd_T104 l i).f0 = (rd_T104 m i).f0 ∧ (rd_T104 l i).f1 = (rd_T104 m i).f1 ∧ (rd_T104 l i).f2 = (rd_T104 m i).f2 ∧ (rd_T104 l i).f3 = (rd_T104 m i).f3 ∧ (rd_T104 l i).f4 = (rd_T104 m i).f4 ∧ (rd_T104 l i).f5 = (rd_T104 m i).f5
instance (l m : List S104) (i : Nat) : Decidable (claimSame l m i) := by unfold claimSame; infer_instance
noncomputable def eqClaimsV (a : Int) (l : List S104) (b : Int) (m : List S104) : Bool := if a = b then (if ((l.length : Int) != (m.length : Int)) = true then false else dec ((∀ i, i < l.length → claimSame l m i) ∧ True)) else false

theorem impl_EqualClaims.ev (a : Int) (l : List S104) (b : Int) (m : List S104) (hl : l.length < 4611686018427387904) : Ev (fun k => impl_EqualClaims.f k a l b m) (eqClaimsV a l b m) := by
  unfold impl_EqualClaims.f eqClaimsV
  refine ev_ite (fun e => ?_) (fun e => ?_)
  · refine Ev.step (fun k => by rw [impl_EqualClaims.j0]) ?_
    refine ev_ite (fun e => Ev.now _) (fun e => ?_)
    have e' : l.length = m.length := by simp at e; omega
    refine scan_all (n := l.length) (fun k i => impl_EqualClaims.l0 k l.length i a l b m) (claimSame l m) True ?_ (fun i hi q r ih => ?_) (fun i hi q => ?_)
    · refine Ev.step (fun k => by rw [impl_EqualClaims.l0]) ?_
      rw [dec_true trivial]
      exact ev_neg (by omega) (Ev.now _)
    · obtain ⟨q0, q1, q2, q3, q4, q5⟩ := q
      refine Ev.step (fun k => by rw [impl_EqualClaims.l0]) ?_
      refine ev_pos (by omega) (ev_pos (by omega) (ev_pos (by omega) (ev_pos (by omega) (ev_neg (by simp [q0, q1, q2, q3, q4, q5]) ?_))))
      rw [wrap_succ (by omega)]
      exact ih
    · refine Ev.step (fun k => by rw [impl_EqualClaims.l0]) ?_
      refine ev_pos (by omega) (ev_pos (by omega) (ev_pos (by omega) (ev_pos (by omega) (ev_pos ?_ (Ev.now _)))))
      unfold claimSame at q
      simp only [Bool.or_eq_true, Bool.not_eq_true', beq_eq_false_iff_ne, ne_eq]
      omega
  · refine Ev.step (fun k => by rw [impl_EqualClaims.j0]) ?_
    exact ev_pos rfl (Ev.now _)

theorem laws_sameInts.ev (l : List Int) (hl : l.length < 4611686018427387904) : Ev (fun k => laws_sameInts.f k l l) true := by
  unfold laws_sameInts.f
  refine ev_pos rfl ?_
  refine scan0 (xs := l) (fun k (_ : Unit) i => laws_sameInts.l0 k l l i) (fun _ _ => true) (fun s => ?_) (fun i h s ih => ?_) ()
  · refine Ev.step (fun k => by rw [laws_sameInts.l0]) ?_
    exact ev_neg (by omega) (Ev.now _)
  · refine Ev.step (fun k => by rw [laws_sameInts.l0]) ?_
    refine ev_pos (by omega) (ev_pos (by omega) (ev_pos (by omega) (ev_pos rfl ?_)))
    rw [wrap_succ (by omega)]
    exact ih ()

theorem rd_app (l : List S104) (c : S104) (i : Nat) (h : i < l.length) : rd_T104 (l ++ [c]) (i : Int) = rd_T104 l (i : Int) := by
  rw [rd_T104, rd_T104, getD_get (by simp; omega), getD_get h, List.getElem_append_left h]
theorem rd_last (l : List S104) (c : S104) : rd_T104 (l ++ [c]) ((l.length : Nat) : Int) = c := by
  rw [rd_T104, getD_get (by simp), List.getElem_append_right (by omega)]
  simp
theorem claims_valid {n : Int} {l : List S104} (h : validClaimsV n l = true) : (∀ i, i < l.length → claimOk n l i ∧ ∀ j, j < i → ¬ claimTwo l i j) ∧ (0 ≤ n ∧ n ≤ 1000000) ∧ l.length ≤ 10 := dec_iff.1 h
/-- The last claim's state may be turned from open to another. -/
theorem valid_turn {n : Int} {l : List S104} (a b c d e s : Int) (h : validClaimsV n (l ++ [⟨a, b, c, d, e, 1⟩]) = true) (hs : 2 ≤ s ∧ s ≤ 3) : validClaimsV n (l ++ [⟨a, b, c, d, e, s⟩]) = true := by
  have g := claims_valid h
  have hA : (l ++ [(⟨a, b, c, d, e, 1⟩ : S104)]).length = l.length + 1 := by simp
  have hB : (l ++ [(⟨a, b, c, d, e, s⟩ : S104)]).length = l.length + 1 := by simp
  refine dec_iff.2 ⟨fun i hi => ?_, g.2.1, by omega⟩
  rw [hB] at hi
  have q := g.1 i (by omega)
  have low : ∀ j : Nat, j < l.length → rd_T104 (l ++ [(⟨a, b, c, d, e, s⟩ : S104)]) (j : Int) = rd_T104 (l ++ [(⟨a, b, c, d, e, 1⟩ : S104)]) (j : Int) := fun j hj => by rw [rd_app l _ j hj, rd_app l _ j hj]
  have prev : 0 < i → rd_T104 (l ++ [(⟨a, b, c, d, e, s⟩ : S104)]) ((i : Int) - 1) = rd_T104 (l ++ [(⟨a, b, c, d, e, 1⟩ : S104)]) ((i : Int) - 1) := fun h0 => by
    rw [show (i : Int) - 1 = ((i - 1 : Nat) : Int) by omega]
    exact low (i - 1) (by omega)
  by_cases c1 : i < l.length
  · unfold claimOk claimTwo at q ⊢
    rw [low i c1]
    refine ⟨⟨q.1.1, fun h0 => by rw [prev h0]; exact q.1.2.1 h0, q.1.2.2⟩, fun j hj => ?_⟩
    rw [low j (by omega)]
    exact q.2 j hj
  · obtain rfl : i = l.length := by omega
    unfold claimOk claimTwo at q ⊢
    rw [rd_last] at q ⊢
    refine ⟨⟨q.1.1, fun h0 => by rw [prev h0]; exact q.1.2.1 h0, q.1.2.2.1, q.1.2.2.2.1, q.1.2.2.2.2.1, by show 1 ≤ s ∧ s ≤ 3; omega⟩, fun j hj t => ?_⟩
    have := t.2.1
    have e1 : s = 1 := this
    omega
theorem findGo_last (id : Int) (c : S104) (hc : c.f0 = id) : ∀ (l : List S104) (i : Nat), (∀ x ∈ l, x.f0 ≠ id) → findClaimGo id (l ++ [c]) i = ((i + l.length : Nat) : Int) := by
  intro l
  induction l with
  | nil => intro i _; simp [findClaimGo, hc]
  | cons x xs ih =>
    intro i h
    have e := ih (i + 1) (fun y hy => h y (by simp [hy]))
    rw [List.cons_append, findClaimGo, if_neg (h x (by simp)), e, List.length_cons]
    omega
theorem find_last (id : Int) (l : List S104) (c : S104) (hc : c.f0 = id) (h : ∀ x ∈ l, x.f0 ≠ id) : findClaimV (l ++ [c]) id = ((l.length : Nat) : Int) := by
  have := findGo_last id c hc l 0 h
  unfold findClaimV
  simpa using this
theorem ids_less {n : Int} {l : List S104} (h : validClaimsV n l = true) : ∀ x ∈ l, x.f0 ≠ n := by
  intro x hx
  obtain ⟨i, hi, e⟩ := List.mem_iff_getElem.1 hx
  have g := claims_valid h
  have q := (g.1 i hi).1
  unfold claimOk at q
  rw [rd_T104, getD_get hi, e, wrap_in (x := n - 1) (by omega) (by omega)] at q
  omega
theorem file_ok {n : Int} {l : List S104} {a h t w : Int} (ok : (fileV n l a h t w).2.2 = true) : validClaimsV n l = true ∧ privateKeyV h ≠ 0 ∧ validClaimsV (n + 1) (l ++ [⟨n, a, h, t, w, 1⟩]) = true ∧ fileV n l a h t w = (n + 1, l ++ [⟨n, a, h, t, w, 1⟩], true) := by
  unfold fileV at ok ⊢
  split at ok
  · rename_i h1
    have g := claims_valid h1
    have e : wrap64 (n + 1) = n + 1 := wrap_in (by omega) (by omega)
    rw [e] at ok ⊢
    split at ok
    · cases ok
    · rename_i h2
      split at ok
      · rename_i h3
        rw [if_pos h1, if_neg h2, if_pos h3]
        exact ⟨h1, h2, h3, rfl⟩
      · cases ok
  · cases ok
theorem file_no {n : Int} {l : List S104} {a h t w : Int} (ok : (fileV n l a h t w).2.2 = false) : fileV n l a h t w = (n, l, false) := by
  unfold fileV at ok ⊢
  repeat' split
  all_goals simp_all
theorem eqClaims_self (n : Int) (l : List S104) : eqClaimsV n l n l = true := by
  unfold eqClaimsV
  rw [if_pos rfl, if_neg (by simp)]
  exact dec_iff.2 ⟨fun i _ => ⟨rfl, rfl, rfl, rfl, rfl, rfl⟩, trivial⟩
/-- A claim that is no more open is neither completed nor objected to. -/
theorem complete_shut (n : Int) (l : List S104) (c : S104) (id t : Int) (hc : c.f0 = id) (h : ∀ x ∈ l, x.f0 ≠ id) (h5 : c.f5 ≠ 1) : (completeV n (l ++ [c]) id t).2.2.2 = false := by
  unfold completeV
  rw [find_last id l c hc h, rd_last]
  repeat' split
  all_goals first | rfl | (exfalso; rename_i q _; exact h5 q) | (exfalso; rename_i q; exact h5 q)
theorem object_shut (n : Int) (l : List S104) (c : S104) (id t : Int) (hc : c.f0 = id) (h : ∀ x ∈ l, x.f0 ≠ id) (h5 : c.f5 ≠ 1) : (objectV n (l ++ [c]) id t).2.2 = false := by
  unfold objectV
  rw [find_last id l c hc h, rd_last]
  repeat' split
  all_goals first | rfl | (exfalso; rename_i q _; exact h5 q) | (exfalso; rename_i q; exact h5 q)
theorem openV_app (l : List S104) (c : S104) (a : Int) : openV (l ++ [c]) a = openV l a ++ openV [c] a := by
  unfold openV
  rw [List.filter_append, List.map_append]
theorem openV_none (l : List S104) (a : Int) (h : ∀ x ∈ l, ¬ (x.f1 = a ∧ x.f5 = 1)) : openV l a = [] := by
  unfold openV
  rw [List.filter_eq_nil_iff.2, List.map_nil]
  intro x hx
  have := h x hx
  simp only [Bool.and_eq_true, decide_eq_true_eq]
  exact this

theorem FnClaims : Claim := by
  intro l0 ⟨hl, hw⟩
  refine Ev.rounds (r := true) ?_
  unfold laws_FnClaims.f
  refine ev_bindc (laws_big.val l0) (ev_both (fun _ => Ev.now _) (fun h => ?_))
  have h' : l0.length ≤ 1048576 := by simp at h; omega
  obtain ⟨n, l, a, p, t, w, e, hL⟩ := spec_DrawFileClaim.draw l0 h'
  refine Ev.bind e (Ev.bind (impl_FileClaim.ev n l a p t w (by omega)) (Ev.bind (spec_FileClaim.ev n l a p t w (by omega)) (ev_neg (by simp) ?_)))
  cases ho : (fileV n l a p t w).2.2
  · rw [file_no ho]
    exact ev_neg (by simp) (Ev.bind (ev_eq (impl_EqualClaims.ev n l n l (by omega)) (eqClaims_self n l)) (Ev.now _))
  · obtain ⟨v1, v2, v3, ef⟩ := file_ok ho
    rw [ef]
    have g1 := claims_valid v1
    have g3 := claims_valid v3
    have hlen : (l ++ [(⟨n, a, p, t, w, 1⟩ : S104)]).length = l.length + 1 := by simp
    have ids := ids_less v1
    have q := g3.1 l.length (by omega)
    unfold claimOk at q
    have ok := q.1
    have two := q.2
    rw [rd_last] at ok
    have ht : 0 ≤ t ∧ t ≤ 1000000 := ok.2.2.2.1
    have hwt : w = 30 ∨ w = 90 := ok.2.2.2.2.1
    have f1 := find_last n l ⟨n, a, p, t, w, 1⟩ rfl ids
    have no : ∀ x ∈ l, ¬ (x.f1 = a ∧ x.f5 = 1) := by
      intro x hx c
      obtain ⟨j, hj, ej⟩ := List.mem_iff_getElem.1 hx
      refine two j (by omega) ?_
      unfold claimTwo
      rw [rd_last, rd_app l _ j hj, rd_T104, getD_get hj, ej]
      exact ⟨c.2, rfl, c.1⟩
    have w1 : wrap64 (t + w) = t + w := wrap_in (by omega) (by omega)
    have w2 : wrap64 (t + w + 1) = t + w + 1 := wrap_in (by omega) (by omega)
    have w3 : wrap64 (t + w + 1 - 1) = t + w := by rw [wrap_in (by omega) (by omega)]; omega
    have due : dueV (l ++ [(⟨n, a, p, t, w, 1⟩ : S104)]) n = t + w + 1 := by
      unfold dueV
      rw [f1, rd_last, if_neg (by omega)]
      show wrap64 (wrap64 (t + w) + 1) = t + w + 1
      rw [w1, w2]
    have set_ : ∀ s : Int, (l ++ [(⟨n, a, p, t, w, 1⟩ : S104)]).set ((l.length : Nat) : Int).toNat ⟨n, a, p, t, w, s⟩ = l ++ [⟨n, a, p, t, w, s⟩] := by
      intro s
      rw [Int.toNat_natCast, List.set_append_right _ _ (by omega), Nat.sub_self]
      rfl
    have early : completeV (n + 1) (l ++ [(⟨n, a, p, t, w, 1⟩ : S104)]) n (t + w) = (n + 1, l ++ [⟨n, a, p, t, w, 1⟩], 0, false) := by
      unfold completeV
      rw [if_pos v3, f1, rd_last, if_neg (by omega), if_pos rfl]
      show (if t + w ≤ wrap64 (t + w) then _ else _) = _
      rw [if_pos (by omega)]
    have fine : completeV (n + 1) (l ++ [(⟨n, a, p, t, w, 1⟩ : S104)]) n (t + w + 1) = (n + 1, l ++ [⟨n, a, p, t, w, 3⟩], p, true) := by
      unfold completeV
      rw [if_pos v3, f1, rd_last, if_neg (by omega), if_pos rfl]
      show (if t + w + 1 ≤ wrap64 (t + w) then _ else (n + 1, (l ++ [(⟨n, a, p, t, w, 1⟩ : S104)]).set ((l.length : Nat) : Int).toNat ⟨n, a, p, t, w, 3⟩, p, true)) = _
      rw [if_neg (by omega), set_ 3]
    have stop : objectV (n + 1) (l ++ [(⟨n, a, p, t, w, 1⟩ : S104)]) n (t + w) = (n + 1, l ++ [⟨n, a, p, t, w, 2⟩], true) := by
      unfold objectV
      rw [if_pos v3, f1, rd_last, if_neg (by omega), if_pos rfl]
      show (if t ≤ t + w ∧ t + w ≤ wrap64 (t + w) then (n + 1, (l ++ [(⟨n, a, p, t, w, 1⟩ : S104)]).set ((l.length : Nat) : Int).toNat ⟨n, a, p, t, w, 2⟩, true) else _) = _
      rw [if_pos (by omega), set_ 2]
    have late : (objectV (n + 1) (l ++ [(⟨n, a, p, t, w, 1⟩ : S104)]) n (t + w + 1)).2.2 = false := by
      unfold objectV
      rw [if_pos v3, f1, rd_last, if_neg (by omega), if_pos rfl]
      show (if t ≤ t + w + 1 ∧ t + w + 1 ≤ wrap64 (t + w) then _ else (n + 1, l ++ [(⟨n, a, p, t, w, 1⟩ : S104)], false)).2.2 = false
      rw [if_neg (by omega)]
    have never := complete_shut (n + 1) l ⟨n, a, p, t, w, 2⟩ n (t + w + 1) rfl ids (by show (2 : Int) ≠ 1; omega)
    have after := object_shut (n + 1) l ⟨n, a, p, t, w, 3⟩ n t rfl ids (by show (3 : Int) ≠ 1; omega)
    have second : (fileV (n + 1) (l ++ [(⟨n, a, p, t, w, 1⟩ : S104)]) a p t w).2.2 = false := by
      cases hs : (fileV (n + 1) (l ++ [(⟨n, a, p, t, w, 1⟩ : S104)]) a p t w).2.2
      · rfl
      · have u := claims_valid (file_ok hs).2.2.1
        exfalso
        refine (u.1 (l.length + 1) (by simp)).2 l.length (by omega) ?_
        unfold claimTwo
        have r1 := rd_last (l ++ [(⟨n, a, p, t, w, 1⟩ : S104)]) ⟨n + 1, a, p, t, w, 1⟩
        rw [hlen] at r1
        rw [r1, rd_app _ _ l.length (by omega), rd_last]
        exact ⟨rfl, rfl, rfl⟩
    have ox : openV (l ++ [(⟨n, a, p, t, w, 1⟩ : S104)]) a = [n] := by
      rw [openV_app, openV_none l a no]
      simp [openV]
    have oy : openV (l ++ [(⟨n, a, p, t, w, 3⟩ : S104)]) a = [] := by
      rw [openV_app, openV_none l a no]
      simp [openV]
    have vy := valid_turn n a p t w 3 v3 (by omega)
    have vz := valid_turn n a p t w 2 v3 (by omega)
    have lx : (l ++ [(⟨n, a, p, t, w, 1⟩ : S104)]).length < 1000 := by omega
    have ly : (l ++ [(⟨n, a, p, t, w, 3⟩ : S104)]).length < 1000 := by simp; omega
    have lz : (l ++ [(⟨n, a, p, t, w, 2⟩ : S104)]).length < 1000 := by simp; omega
    refine ev_pos rfl (Ev.bind (ev_eq (impl_DueAt.ev _ _ _ (Nat.lt_of_lt_of_le lx (by decide))) due) ?_)
    rw [w3]
    refine Ev.bind (ev_eq (impl_CompleteClaim.ev _ _ _ _ (Nat.lt_of_lt_of_le lx (by decide))) early) (Ev.bind (ev_eq (impl_CompleteClaim.ev _ _ _ _ (Nat.lt_of_lt_of_le lx (by decide))) fine) ?_)
    refine Ev.bind (ev_eq (impl_ObjectTo.ev _ _ _ _ (Nat.lt_of_lt_of_le lx (by decide))) stop) (Ev.bind (impl_ObjectTo.ev _ _ _ _ (Nat.lt_of_lt_of_le lx (by decide))) ?_)
    refine Ev.bind (impl_CompleteClaim.ev _ _ _ _ (Nat.lt_of_lt_of_le lz (by decide))) (Ev.bind (impl_FileClaim.ev _ _ _ _ _ _ (Nat.lt_of_lt_of_le lx (by decide))) (Ev.bind (impl_ObjectTo.ev _ _ _ _ (Nat.lt_of_lt_of_le ly (by decide))) ?_))
    rw [w1, w2]
    refine ev_pos rfl (ev_neg (by simp) (ev_pos rfl (ev_pos rfl (ev_pos rfl ?_))))
    refine ev_neg (by rw [late]; simp) (ev_neg (by rw [never]; simp) (ev_neg (by rw [second]; simp) (ev_neg (by rw [after]; simp) ?_)))
    refine Ev.bind (ev_eq (impl_OpenClaims.ev _ _ _ (Nat.lt_of_lt_of_le lx (by decide))) ox) (Ev.bind (laws_sameInts.ev [n] (by simp)) (ev_pos rfl ?_))
    refine Ev.bind (ev_eq (impl_OpenClaims.ev _ _ _ (Nat.lt_of_lt_of_le ly (by decide))) oy) (ev_pos rfl ?_)
    refine Ev.bind (ev_eq (impl_IsValidClaims.ev _ _ (Nat.lt_of_lt_of_le ly (by decide))) vy) (ev_pos rfl ?_)
    exact Ev.bind (ev_eq (impl_IsValidClaims.ev _ _ (Nat.lt_of_lt_of_le lz (by decide))) vz) (Ev.now _)

end Go.Proofs.Ytjggdakbphjomaa.Pure
