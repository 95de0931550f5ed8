/- The program's CanAct returns what the reference's returns, for all arguments that the row lets in; no condition besides. Here: the plain side, over the printed functions. -/
import Derived.Test.YtjggdakbphjomaaZFnExactCanActx9
import Derived.Test.YtjggdakbphjomaaKitV
namespace Go.Proofs.Ytjggdakbphjomaa.Pure
open Go.RowKit Go.Proofs.Ytjggdakbphjomaa.ZFnExactCanAct Go.Proofs.YtjggdakbphjomaaW.PrintWords Go.Proofs.YtjggdakbphjomaaW.PrintLast Go.Proofs.YtjggdakbphjomaaW.PrintMore Go.Proofs.Ytjggdakbphjomaa.Kit
set_option linter.unusedVariables false
set_option linter.unusedSimpArgs false

/-- What is known of a Grant that came in. -/
def W99 (x : S99) : Prop := ((Lit.int .i64 x.f0).wf = true) ∧ ((Lit.int .i64 x.f1).wf = true) ∧ ((Lit.int .i64 x.f2).wf = true) ∧ ((Lit.int .i64 x.f3).wf = true) ∧ ((Lit.int .i64 x.f4).wf = true) ∧ ((Lit.int .i64 x.f5).wf = true)
/-- What is to be proved of the printed functions. -/
def Claim : Prop := ∀ (l0 : List (S99)), ∀ (a1 : Int), ∀ (a2 : Int), ∀ (a3 : Int), ∀ (a4 : Int), (l0.length ≤ maxLen ∧ ∀ y_ ∈ l0, W99 y_) → ((Lit.int .i64 a1).wf = true) → ((Lit.int .i64 a2).wf = true) → ((Lit.int .i64 a3).wf = true) → ((Lit.int .i64 a4).wf = true) → ∃ k, laws_FnExactCanAct.f k l0 a1 a2 a3 a4 = some true

theorem laws_szGrantS.fits (l : List S99) (n : Int) (h0 : n ≤ 1048576) (h : (l.length : Int) ≤ n) : laws_szGrantS.f l n = some (n - l.length) := by
  unfold laws_szGrantS.f
  rw [wrap_in (by omega) (by omega), if_neg (by omega)]
theorem laws_szGrantS.big (l : List S99) (n : Int) (h0 : n ≤ 1048576) (h : n < (l.length : Int)) (h1 : 0 ≤ n) (hl : l.length ≤ maxLen) : laws_szGrantS.f l n = some (-1) := by
  unfold maxLen at hl
  unfold laws_szGrantS.f
  rw [wrap_in (by omega) (by omega), if_pos (by omega)]

def cvGrant (x : S99) : S64 := ⟨x.f0, x.f1, x.f2, x.f3, x.f4, x.f5⟩

theorem laws_toGrantS.ev (l : List S99) (hl : l.length ≤ 1048576) : Ev (fun k => laws_toGrantS.f k l) (l.map cvGrant) := by
  unfold laws_toGrantS.f
  refine ev_pos (by omega) (ev_pos (by omega) ?_)
  refine fill (xs := l) cvGrant (fun k s i => laws_toGrantS.l0 k l s i) (fun s hs => ?_) (fun i h s hs r ih => ?_) (List.replicate ((l.length : Int)).toNat z64) (by simp)
  · refine Ev.step (fun k => by rw [laws_toGrantS.l0]) ?_
    exact ev_neg (by omega) (Ev.now _)
  · refine Ev.step (fun k => by rw [laws_toGrantS.l0]) ?_
    refine ev_pos (by omega) (ev_pos (by omega) (ev_bindc rfl (ev_pos (by omega) ?_)))
    simp only [rd_T99, Int.toNat_natCast, getD_nat h, wrap_succ (show i < 4611686018427387904 by omega)]
    exact ih

theorem laws_eqGrantS.ev (l : List S64) (hl : l.length < 4611686018427387904) : Ev (fun k => laws_eqGrantS.f k l l) true := by
  unfold laws_eqGrantS.f
  refine ev_pos rfl ?_
  refine scan0 (xs := l) (fun k (_ : Unit) i => laws_eqGrantS.l0 k l l i) (fun _ _ => true) (fun s => ?_) (fun i h s ih => ?_) ()
  · refine Ev.step (fun k => by rw [laws_eqGrantS.l0]) ?_
    exact ev_neg (by omega) (Ev.now _)
  · refine Ev.step (fun k => by rw [laws_eqGrantS.l0]) ?_
    refine ev_pos (by omega) (ev_pos (by omega) (ev_pos (by omega) (ev_bindc (a := true) (by simp [laws_eqGrant.f]) (ev_pos rfl ?_))))
    rw [wrap_succ (by omega)]
    exact ih ()

def modV (p q : Int) : Int := if 1 ≤ q ∧ q ≤ 1000000000000 then p % q else 0
theorem modV_range {p q : Int} (h : 1 ≤ q) : 0 ≤ modV p q ∧ modV p q < q := by
  unfold modV
  split
  · exact ⟨Int.emod_nonneg _ (by omega), Int.emod_lt_of_pos _ (by omega)⟩
  · omega
theorem tmod_range (p : Int) {q : Int} (h : 1 ≤ q) : -q < Int.tmod p q ∧ Int.tmod p q < q := by
  have h1 := Int.tmod_lt_of_pos p (show 0 < q by omega)
  have h2 := Int.lt_tmod_of_pos p (show 0 < q by omega)
  exact ⟨h2, h1⟩
theorem tmod_add (p : Int) {q : Int} (h : 1 ≤ q) : (Int.tmod p q + q) % q = p % q := by
  have e := Int.tmod_def p q
  have : Int.tmod p q + q = p + q * (1 - p.tdiv q) := by rw [e, Int.mul_sub]; omega
  rw [this, Int.add_mul_emod_self_left]

def hashStep (h v : Int) : Int := Int.tmod (wrap64 ((wrap64 ((wrap64 (h * 1000003)) + modV v 2147483647)) + 13)) 2147483647
def hashV (l : List Int) : Int := l.foldl hashStep 11

def keyedHashV (key : Int) (l : List Int) : Int := hashV ((key :: l) ++ [key])

def signV (p : Int) (m : List Int) : Int := if 1 ≤ p ∧ p ≤ 2147483646 then keyedHashV p ([139, (m.length : Int)] ++ m) else 0

def publicKeyV (a : Int) : Int := if 1 ≤ a ∧ a ≤ 2147483646 then a * 48271 % 2147483647 else 0
theorem publicKeyV_range (a : Int) : 0 ≤ publicKeyV a ∧ publicKeyV a ≤ 2147483646 := by
  unfold publicKeyV
  split <;> omega

def privateKeyV (a : Int) : Int := if 1 ≤ a ∧ a ≤ 2147483646 then a * 1899818559 % 2147483647 else 0
theorem privateKeyV_range (a : Int) : 0 ≤ privateKeyV a ∧ privateKeyV a ≤ 2147483646 := by
  unfold privateKeyV
  split <;> omega
theorem private_ne (a : Int) : privateKeyV a = 0 ↔ ¬ (1 ≤ a ∧ a ≤ 2147483646) := by
  unfold privateKeyV
  split <;> omega
theorem public_private (a : Int) (h : 1 ≤ a ∧ a ≤ 2147483646) : publicKeyV (privateKeyV a) = a := by
  have h1 : privateKeyV a = a * 1899818559 % 2147483647 := if_pos h
  have h2 : 1 ≤ privateKeyV a ∧ privateKeyV a ≤ 2147483646 := by omega
  unfold publicKeyV
  rw [if_pos h2, h1]
  omega
theorem private_public (a : Int) (h : 1 ≤ a ∧ a ≤ 2147483646) : privateKeyV (publicKeyV a) = a := by
  have h1 : publicKeyV a = a * 48271 % 2147483647 := if_pos h
  have h2 : 1 ≤ publicKeyV a ∧ publicKeyV a ≤ 2147483646 := by omega
  unfold privateKeyV
  rw [if_pos h2, h1]
  omega

def verifyV (p : Int) (m : List Int) (s : Int) : Bool := if privateKeyV p = 0 then false else signV (privateKeyV p) m == s

def isGrantV (a b c d e f : Int) : Bool := if privateKeyV a = 0 then false else if privateKeyV b = 0 then false else if a = b then false else if (1 ≤ c ∧ c ≤ 7) then (if (0 ≤ d ∧ d ≤ 1000000) then (if (0 ≤ e ∧ e ≤ 5) then verifyV a [263, a, b, c, d, e] f else false) else false) else false

def linkOk (l : List S64) (t : Int) (i : Nat) : Prop := isGrantV (rd_T64 l i).f0 (rd_T64 l i).f1 (rd_T64 l i).f2 (rd_T64 l i).f3 (rd_T64 l i).f4 (rd_T64 l i).f5 = true ∧ ¬ (rd_T64 l i).f3 < t ∧ (0 < i → (rd_T64 l i).f0 = (rd_T64 l ((i : Int) - 1)).f1 ∧ ¬ (rd_T64 l i).f4 ≥ (rd_T64 l ((i : Int) - 1)).f4)
def chainAcc (l : List S64) : Nat → Int
  | 0 => 7
  | i + 1 => Go.bits .and .i64 (chainAcc l i) (rd_T64 l (i : Int)).f2
noncomputable def chainV (l : List S64) (a b t : Int) : Int := if dec (0 < l.length ∧ (rd_T64 l 0).f0 = a ∧ (rd_T64 l ((l.length : Int) - 1)).f1 = b ∧ ∀ i, i < l.length → linkOk l t i) = true then chainAcc l l.length else 0
theorem chainV_no {l : List S64} {a b t : Int} (h : ¬ (0 < l.length ∧ (rd_T64 l 0).f0 = a ∧ (rd_T64 l ((l.length : Int) - 1)).f1 = b ∧ ∀ i, i < l.length → linkOk l t i)) : chainV l a b t = 0 := by
  unfold chainV
  rw [dec_false h]
  rfl
theorem chainV_yes {l : List S64} {a b t : Int} (h : 0 < l.length ∧ (rd_T64 l 0).f0 = a ∧ (rd_T64 l ((l.length : Int) - 1)).f1 = b ∧ ∀ i, i < l.length → linkOk l t i) : chainV l a b t = chainAcc l l.length := by
  unfold chainV
  rw [dec_true h]
  rfl
theorem link_bad {l : List S64} {t : Int} (h : ¬ ∀ i, i < l.length → linkOk l t i) : ∃ i, i < l.length ∧ ¬ linkOk l t i :=
  Classical.byContradiction fun no => h fun i hi => Classical.byContradiction fun q => no ⟨i, hi, q⟩

noncomputable def canActV (l : List S64) (a b s t : Int) : Bool := if (s = 1 ∨ s = 2 ∨ s = 4) then (if b = a ∧ privateKeyV a ≠ 0 then true else decide (Go.bits .and .i64 (chainV l a b t) s ≠ 0)) else false
theorem canActV_no {l : List S64} {a b s t : Int} (h : ¬ (s = 1 ∨ s = 2 ∨ s = 4)) : canActV l a b s t = false := by
  unfold canActV
  rw [if_neg h]

theorem spec_l6Power.ev : Ev (fun k => spec_l6Power.f k 48271 2147483645) 1899818559 :=
  Ev.of (k := 40) (fun k => spec_l6Power.mono _ _ k) (by decide +kernel)

theorem spec_l1In.val (a b c : Int) : spec_l1In.f a b c = some (decide (b ≤ a ∧ a ≤ c)) := by
  unfold spec_l1In.f
  by_cases h : a ≥ b
  · rw [if_pos h]; simp only [ge_iff_le] at h; simp [h]
  · rw [if_neg h]; simp only [ge_iff_le] at h; simp [h]

theorem spec_IsValidKey.val (a : Int) : spec_IsValidKey.f a = some (decide (1 ≤ a ∧ a ≤ 2147483646)) := by
  unfold spec_IsValidKey.f
  rw [spec_l1In.val]
  rfl

theorem spec_PublicKey.val (a : Int) : spec_PublicKey.f a = some (publicKeyV a) := by
  unfold spec_PublicKey.f publicKeyV
  rw [spec_IsValidKey.val]
  simp only [Option.bind_some, decide_eq_true_eq]
  by_cases h : 1 ≤ a ∧ a ≤ 2147483646
  · rw [if_pos h, if_pos h, wrap_in (by omega) (by omega), Int.tmod_eq_emod_of_nonneg (by omega)]
  · rw [if_neg h, if_neg h]

theorem spec_PrivateKey.ev (a : Int) : Ev (fun k => spec_PrivateKey.f k a) (privateKeyV a) := by
  unfold spec_PrivateKey.f
  rw [spec_l1In.val]
  simp only [Option.bind_some, decide_eq_true_eq]
  by_cases h : 1 ≤ a ∧ a ≤ 2147483646
  · have e : privateKeyV a = a * 1899818559 % 2147483647 := if_pos h
    refine ev_pos h (Ev.bind spec_l6Power.ev ?_)
    rw [wrap_in (by omega) (by omega), Int.tmod_eq_emod_of_nonneg (by omega), ← e]
    refine ev_bindc (spec_PublicKey.val _) (ev_pos (public_private a h) (Ev.now _))
  · refine ev_neg h ?_
    rw [(private_ne a).2 h]
    exact Ev.now _

theorem spec_Mod.val (p q : Int) : spec_Mod.f p q = some (modV p q) := by
  unfold spec_Mod.f modV
  rw [spec_l1In.val]
  simp only [Option.bind_some]
  by_cases h : 1 ≤ q ∧ q ≤ 1000000000000
  · have h1 := tmod_range p h.1
    have h2 := tmod_add p h.1
    rw [if_pos h, if_pos (by simp [h]), if_neg (by omega), wrap_in (by omega) (by omega), Int.tmod_eq_emod_of_nonneg (by omega), h2]
  · rw [if_neg h, if_neg (by simpa using h)]

theorem spec_Hash.ev (l : List Int) (hl : l.length < 4611686018427387904) : Ev (fun k => spec_Hash.f k l) (hashV l) := by
  unfold spec_Hash.f
  refine scan0 (xs := l) (fun k h i => spec_Hash.l0 k l h i) (fun ys h => ys.foldl hashStep h) (fun s => ?_) (fun i h s ih => ?_) 11
  · refine Ev.step (fun k => by rw [spec_Hash.l0]) ?_
    exact ev_neg (by omega) (Ev.now _)
  · refine Ev.step (fun k => by rw [spec_Hash.l0]) ?_
    refine ev_pos (by omega) (ev_pos (by omega) ?_)
    rw [rd_get h, spec_Mod.val, wrap_succ (by omega)]
    exact ih _

theorem spec_KeyedHash.ev (key : Int) (l : List Int) (hl : l.length < 17592186044400) : Ev (fun k => spec_KeyedHash.f k key l) (keyedHashV key l) := by
  unfold spec_KeyedHash.f keyedHashV
  simp only [Option.bind_some]
  refine ev_pos (by simp; omega) (ev_pos (by simp; omega) (Ev.bind (spec_Hash.ev _ (by simp; omega)) (Ev.now _)))

theorem spec_SignMessage.ev (p : Int) (m : List Int) (hm : m.length < 17592186044000) : Ev (fun k => spec_SignMessage.f k p m) (signV p m) := by
  unfold spec_SignMessage.f signV
  rw [spec_IsValidKey.val]
  simp only [Option.bind_some, decide_eq_true_eq]
  refine ev_ite (fun _ => ?_) (fun _ => Ev.now _)
  exact ev_pos (by simp; omega) (Ev.bind (spec_KeyedHash.ev _ _ (by simp; omega)) (Ev.now _))

theorem spec_VerifySignature.ev (p : Int) (m : List Int) (s : Int) (hm : m.length < 17592186044000) : Ev (fun k => spec_VerifySignature.f k p m s) (verifyV p m s) := by
  unfold spec_VerifySignature.f verifyV
  exact Ev.bind (spec_PrivateKey.ev p) (ev_ite (fun _ => Ev.now _) (fun _ => Ev.bind (spec_SignMessage.ev _ m hm) (Ev.now _)))

theorem spec_IsGrant.ev (a b c d e f : Int) : Ev (fun k => spec_IsGrant.f k a b c d e f) (isGrantV a b c d e f) := by
  unfold spec_IsGrant.f isGrantV
  simp only [spec_l1In.val, Option.bind_some, decide_eq_true_eq]
  refine Ev.bind (spec_PrivateKey.ev a) (ev_ite (fun _ => Ev.now _) (fun _ => ?_))
  refine Ev.bind (spec_PrivateKey.ev b) (ev_ite (fun _ => Ev.now _) (fun _ => ?_))
  refine ev_ite (fun _ => Ev.now _) (fun _ => ev_ite (fun _ => ev_ite (fun _ => ev_ite (fun _ => ?_) (fun _ => Ev.now _)) (fun _ => Ev.now _)) (fun _ => Ev.now _))
  exact ev_bindc rfl (Ev.bind (spec_VerifySignature.ev _ _ _ (by simp)) (Ev.now _))

theorem spec_ChainScopes.go (l : List S64) (a b t : Int) (hl : l.length < 4611686018427387904) (i : Nat) (hi : i < l.length) (q : ¬ ¬ linkOk l t i) (r : Int) (ih : Ev (fun k => spec_ChainScopes.l0 k l t (l.length : Int) (chainAcc l (i + 1)) ((i + 1 : Nat) : Int)) r) : Ev (fun k => spec_ChainScopes.l0 k l t (l.length : Int) (chainAcc l i) (i : Int)) r := by
  have ⟨q0, q1, q2⟩ := Classical.not_not.1 q
  have e1 := wrap_in (x := (i : Int) - 1) (show -9223372036854775808 ≤ (i : Int) - 1 by omega) (show (i : Int) - 1 ≤ 9223372036854775807 by omega)
  refine Ev.step (fun k => by rw [spec_ChainScopes.l0]) ?_
  rw [e1, wrap_succ (i := i) (by omega)]
  refine ev_pos (by omega) (ev_pos (by omega) (ev_pos (by omega) (Ev.bind (spec_IsGrant.ev _ _ _ _ _ _) (ev_pos q0 (ev_neg q1 ?_)))))
  refine ev_both (fun h => ?_) (fun _ => ih)
  have q3 := q2 (by omega)
  exact ev_pos (by omega) (ev_pos (by omega) (ev_pos q3.1 (ev_neg q3.2 ih)))
theorem spec_ChainScopes.stop (l : List S64) (a b t : Int) (hl : l.length < 4611686018427387904) (i : Nat) (hi : i < l.length) (q : ¬ linkOk l t i) : Ev (fun k => spec_ChainScopes.l0 k l t (l.length : Int) (chainAcc l i) (i : Int)) 0 := by
  have e1 := wrap_in (x := (i : Int) - 1) (show -9223372036854775808 ≤ (i : Int) - 1 by omega) (show (i : Int) - 1 ≤ 9223372036854775807 by omega)
  refine Ev.step (fun k => by rw [spec_ChainScopes.l0]) ?_
  rw [e1]
  refine ev_pos (by omega) (ev_pos (by omega) (ev_pos (by omega) (Ev.bind (spec_IsGrant.ev _ _ _ _ _ _) (ev_both (fun h0 => ?_) (fun _ => Ev.now _)))))
  refine ev_both (fun _ => Ev.now _) (fun h1 => ?_)
  refine ev_both (fun h2 => ?_) (fun h2 => ?_)
  · refine ev_pos (by omega) (ev_pos (by omega) (ev_both (fun h3 => ev_both (fun _ => Ev.now _) (fun h4 => ?_)) (fun _ => Ev.now _)))
    exact absurd ⟨h0, h1, fun _ => ⟨h3, h4⟩⟩ q
  · exact absurd ⟨h0, h1, fun h => absurd h (by omega)⟩ q
theorem spec_ChainScopes.ev (l : List S64) (a b t : Int) (hl : l.length < 4611686018427387904) : Ev (fun k => spec_ChainScopes.f k l a b t) (chainV l a b t) := by
  unfold spec_ChainScopes.f
  have out : Ev (fun k => spec_ChainScopes.j0 k l t (l.length : Int) true) 0 := Ev.step (fun k => by rw [spec_ChainScopes.j0]) (ev_pos rfl (Ev.now _))
  refine ev_both (fun h => ?_) (fun h => ev_pos (by omega) (ev_both (fun h1 => ?_) (fun h1 => ?_)))
  · rw [chainV_no (fun g => by omega)]; exact out
  · have e1 := wrap_in (x := (l.length : Int) - 1) (show -9223372036854775808 ≤ (l.length : Int) - 1 by omega) (show (l.length : Int) - 1 ≤ 9223372036854775807 by omega)
    rw [e1]
    refine ev_pos (by omega) (ev_pos (by omega) ?_)
    by_cases h2 : (rd_T64 l ((l.length : Int) - 1)).f1 = b
    · rw [show ((rd_T64 l ((l.length : Int) - 1)).f1 != b) = false by simpa using h2]
      refine Ev.step (fun k => by rw [spec_ChainScopes.j0]) (ev_neg (by simp) ?_)
      by_cases h3 : ∀ i, i < l.length → linkOk l t i
      · rw [chainV_yes ⟨by omega, h1, h2, h3⟩]
        refine scan_miss (n := l.length) (fun k i => spec_ChainScopes.l0 k l t (l.length : Int) (chainAcc l i.toNat) i) (fun i => ¬ linkOk l t i) _ ?_ (fun i hi q r ih => spec_ChainScopes.go l a b t hl i hi q r ih) (fun i hi q => q (h3 i hi))
        refine Ev.step (fun k => by rw [spec_ChainScopes.l0]) ?_
        exact ev_neg (by omega) (Ev.now _)
      · rw [chainV_no (fun g => h3 g.2.2.2)]
        exact scan_hit (n := l.length) (fun k i => spec_ChainScopes.l0 k l t (l.length : Int) (chainAcc l i.toNat) i) (fun i => ¬ linkOk l t i) 0 (fun i hi q r ih => spec_ChainScopes.go l a b t hl i hi q r ih) (fun i hi q => spec_ChainScopes.stop l a b t hl i hi q) (link_bad h3)
    · rw [show ((rd_T64 l ((l.length : Int) - 1)).f1 != b) = true by simpa using h2, chainV_no (fun g => h2 g.2.2.1)]
      exact out
  · rw [chainV_no (fun g => h1 g.2.1)]; exact out

theorem spec_CanAct.ev (l : List S64) (a b s t : Int) (hl : l.length < 4611686018427387904) : Ev (fun k => spec_CanAct.f k l a b s t) (canActV l a b s t) := by
  have yes : (s = 1 ∨ s = 2 ∨ s = 4) → Ev (fun k => spec_CanAct.j0 k l a b s t false) (canActV l a b s t) := by
    intro h
    unfold canActV
    rw [if_pos h]
    refine Ev.step (fun k => by rw [spec_CanAct.j0]) (ev_neg (by simp) ?_)
    by_cases h1 : b = a
    · refine ev_pos h1 (Ev.bind (spec_PrivateKey.ev _) (ev_both (fun h2 => ?_) (fun h2 => ?_)))
      · rw [if_neg (fun g => g.2 h2)]
        exact Ev.bind (spec_ChainScopes.ev l a b t hl) (ev_const (by by_cases e : Go.bits .and .i64 (chainV l a b t) s = 0 <;> simp [e]))
      · rw [if_pos ⟨h1, h2⟩]; exact Ev.now _
    · rw [if_neg (fun g => h1 g.1)]
      exact ev_neg h1 (Ev.bind (spec_ChainScopes.ev l a b t hl) (ev_const (by by_cases e : Go.bits .and .i64 (chainV l a b t) s = 0 <;> simp [e])))
  unfold spec_CanAct.f
  refine ev_both (fun h => yes (by omega)) (fun h1 => ev_both (fun h => yes (by omega)) (fun h2 => ?_))
  by_cases h4 : s = 4
  · rw [show (s != 4) = false by simpa using h4]
    exact yes (by omega)
  · rw [show (s != 4) = true by simpa using h4, canActV_no (by omega)]
    exact Ev.step (fun k => by rw [spec_CanAct.j0]) (ev_pos rfl (Ev.now _))

theorem impl_power.evM : Ev (fun k => impl_power.f k 48271 2147483645 2147483647) 1899818559 :=
  Ev.of (k := 40) (fun k => impl_power.mono _ _ _ k) (by decide +kernel)

theorem impl_InRange.val (a b c : Int) : impl_InRange.f a b c = some (decide (b ≤ a ∧ a ≤ c)) := by
  unfold impl_InRange.f
  by_cases h : b ≤ a
  · rw [if_pos h]; simp [h]
  · rw [if_neg h]; simp [h]

theorem impl_IsValidKey.val (a : Int) : impl_IsValidKey.f a = some (decide (1 ≤ a ∧ a ≤ 2147483646)) := by
  unfold impl_IsValidKey.f
  rw [impl_InRange.val]
  rfl

theorem impl_PrivateKey.ev (a : Int) : Ev (fun k => impl_PrivateKey.f k a) (privateKeyV a) := by
  unfold impl_PrivateKey.f
  rw [impl_IsValidKey.val]
  simp only [Option.bind_some, decide_eq_true_eq]
  by_cases h : 1 ≤ a ∧ a ≤ 2147483646
  · have e : privateKeyV a = a * 1899818559 % 2147483647 := if_pos h
    refine ev_pos h (Ev.bind impl_power.evM ?_)
    rw [wrap_in (by omega) (by omega), Int.tmod_eq_emod_of_nonneg (by omega), ← e]
    exact Ev.now _
  · refine ev_neg h ?_
    rw [(private_ne a).2 h]
    exact Ev.now _

theorem impl_Mod.ev (p q : Int) : Ev (fun k => impl_Mod.f k p q) (modV p q) := by
  unfold impl_Mod.f modV
  by_cases h1 : q < 1
  · refine ev_pos h1 (Ev.step (fun k => by rw [impl_Mod.j0]) (ev_pos rfl ?_))
    rw [if_neg (show ¬ (1 ≤ q ∧ q ≤ 1000000000000) by omega)]
    exact Ev.now _
  · refine ev_neg h1 (Ev.step (fun k => by rw [impl_Mod.j0]) ?_)
    by_cases h2 : q > 1000000000000
    · refine ev_pos (by simpa using h2) ?_
      rw [if_neg (show ¬ (1 ≤ q ∧ q ≤ 1000000000000) by omega)]
      exact Ev.now _
    · refine ev_neg (by simpa using h2) (ev_neg (by omega) ?_)
      rw [if_pos (show 1 ≤ q ∧ q ≤ 1000000000000 by omega)]
      have r1 := tmod_range p (show 1 ≤ q by omega)
      have r2 := tmod_add p (show 1 ≤ q by omega)
      by_cases h3 : Int.tmod p q < 0
      · refine ev_pos h3 (ev_const ?_)
        rw [wrap_in (by omega) (by omega), ← r2, Int.emod_eq_of_lt (by omega) (by omega)]
      · refine ev_neg h3 (ev_const ?_)
        rw [← r2, Int.add_emod_right, Int.emod_eq_of_lt (by omega) (by omega)]

theorem impl_Hash.ev (l : List Int) (hl : l.length < 4611686018427387904) : Ev (fun k => impl_Hash.f k l) (hashV l) := by
  unfold impl_Hash.f
  refine scan0 (xs := l) (fun k h i => impl_Hash.l0 k h l l.length i) (fun ys h => ys.foldl hashStep h) (fun s => ?_) (fun i h s ih => ?_) 11
  · refine Ev.step (fun k => by rw [impl_Hash.l0]) ?_
    exact ev_neg (by omega) (Ev.now _)
  · refine Ev.step (fun k => by rw [impl_Hash.l0]) ?_
    refine ev_pos (by omega) (ev_pos (by omega) (ev_pos (by omega) ?_))
    rw [rd_get h, wrap_succ (by omega)]
    exact Ev.bind (impl_Mod.ev _ _) (ih _)

theorem impl_joined.ev (l : List Int) (ls : List (List Int)) (hls : ls.length < 4611686018427387904) (hl : l.length + (ls.flatten).length < 17592186044416) : Ev (fun k => impl_joined.f k l ls) (l ++ ls.flatten) := by
  unfold impl_joined.f
  simp only [Option.bind_some, List.nil_append, List.length_nil]
  refine ev_pos (by omega) ?_
  have key : ∀ (d i : Nat), i + d = ls.length → ∀ s : List Int, s.length + ((ls.drop i).flatten).length < 17592186044416 → Ev (fun k => impl_joined.l0 k s ls ls.length (i : Int)) (s ++ (ls.drop i).flatten) := by
    intro d
    induction d with
    | zero =>
      intro i hi s hs
      rw [List.drop_of_length_le (by omega)]
      refine Ev.step (fun k => by rw [impl_joined.l0]) ?_
      refine ev_neg (by omega) ?_
      simpa using Ev.now s
    | succ d ih =>
      intro i hi s hs
      have h : i < ls.length := by omega
      rw [List.drop_eq_getElem_cons h] at hs ⊢
      simp only [List.flatten_cons, List.length_append] at hs ⊢
      refine Ev.step (fun k => by rw [impl_joined.l0]) ?_
      refine ev_pos (by omega) (ev_pos (by omega) (ev_pos (by omega) ?_))
      simp only [rd_L3, getD_get h, wrap_succ (show i < 4611686018427387904 by omega)]
      refine ev_pos (by omega) ?_
      have := ih (i + 1) (by omega) (s ++ ls[i]) (by rw [List.length_append]; omega)
      rwa [List.append_assoc] at this
  exact key ls.length 0 (by omega) l hl

theorem impl_KeyedHash.ev (key : Int) (l : List Int) (hl : l.length < 17592186044400) : Ev (fun k => impl_KeyedHash.f k key l) (keyedHashV key l) := by
  unfold impl_KeyedHash.f keyedHashV
  refine Ev.bind (impl_joined.ev _ _ (by simp) (by simp; omega)) ?_
  simp only [List.flatten_cons, List.flatten_nil, List.append_nil]
  exact Ev.bind (impl_Hash.ev _ (by simp; omega)) (Ev.now _)

theorem impl_SignMessage.ev (p : Int) (m : List Int) (hm : m.length < 17592186044000) : Ev (fun k => impl_SignMessage.f k p m) (signV p m) := by
  unfold impl_SignMessage.f signV
  rw [impl_IsValidKey.val]
  simp only [Option.bind_some, decide_eq_true_eq]
  refine ev_ite (fun _ => ?_) (fun _ => Ev.now _)
  refine Ev.bind (impl_joined.ev _ _ (by simp) (by simp; omega)) ?_
  simp only [List.flatten_cons, List.flatten_nil, List.append_nil]
  exact Ev.bind (impl_KeyedHash.ev _ _ (by simp; omega)) (Ev.now _)

theorem impl_VerifySignature.ev (p : Int) (m : List Int) (s : Int) (hm : m.length < 17592186044000) : Ev (fun k => impl_VerifySignature.f k p m s) (verifyV p m s) := by
  unfold impl_VerifySignature.f verifyV
  exact Ev.bind (impl_PrivateKey.ev p) (ev_ite (fun _ => Ev.now _) (fun _ => Ev.bind (impl_SignMessage.ev _ m hm) (Ev.now _)))

theorem impl_IsGrant.ev (a b c d e f : Int) : Ev (fun k => impl_IsGrant.f k a b c d e f) (isGrantV a b c d e f) := by
  unfold impl_IsGrant.f isGrantV
  simp only [impl_InRange.val, Option.bind_some, decide_eq_true_eq]
  refine Ev.bind (impl_PrivateKey.ev a) (ev_ite (fun _ => Ev.now _) (fun _ => ?_))
  refine Ev.bind (impl_PrivateKey.ev b) (ev_ite (fun _ => Ev.now _) (fun _ => ?_))
  refine ev_ite (fun _ => Ev.now _) (fun _ => ev_ite (fun _ => ev_ite (fun _ => ev_ite (fun _ => ?_) (fun _ => Ev.now _)) (fun _ => Ev.now _)) (fun _ => Ev.now _))
  exact ev_bindc rfl (Ev.bind (impl_VerifySignature.ev _ _ _ (by simp)) (Ev.now _))

theorem impl_ChainScopes.go (l : List S64) (a b t : Int) (hl : l.length < 4611686018427387904) (i : Nat) (hi : i < l.length) (q : ¬ ¬ linkOk l t i) (r : Int) (ih : Ev (fun k => impl_ChainScopes.l0 k l a b t (chainAcc l (i + 1)) l (l.length : Int) ((i + 1 : Nat) : Int)) r) : Ev (fun k => impl_ChainScopes.l0 k l a b t (chainAcc l i) l (l.length : Int) (i : Int)) r := by
  have ⟨q0, q1, q2⟩ := Classical.not_not.1 q
  have e1 := wrap_in (x := (i : Int) - 1) (show -9223372036854775808 ≤ (i : Int) - 1 by omega) (show (i : Int) - 1 ≤ 9223372036854775807 by omega)
  refine Ev.step (fun k => by rw [impl_ChainScopes.l0]) ?_
  rw [e1, wrap_succ (i := i) (by omega)]
  refine ev_pos (by omega) (ev_pos (by omega) (ev_pos (by omega) (Ev.bind (impl_IsGrant.ev _ _ _ _ _ _) (ev_pos q0 (ev_neg q1 ?_)))))
  refine ev_both (fun h => ?_) (fun _ => ih)
  have q3 := q2 (by omega)
  exact ev_pos (by omega) (ev_pos (by omega) (ev_pos q3.1 (ev_neg q3.2 ih)))
theorem impl_ChainScopes.stop (l : List S64) (a b t : Int) (hl : l.length < 4611686018427387904) (i : Nat) (hi : i < l.length) (q : ¬ linkOk l t i) : Ev (fun k => impl_ChainScopes.l0 k l a b t (chainAcc l i) l (l.length : Int) (i : Int)) 0 := by
  have e1 := wrap_in (x := (i : Int) - 1) (show -9223372036854775808 ≤ (i : Int) - 1 by omega) (show (i : Int) - 1 ≤ 9223372036854775807 by omega)
  refine Ev.step (fun k => by rw [impl_ChainScopes.l0]) ?_
  rw [e1]
  refine ev_pos (by omega) (ev_pos (by omega) (ev_pos (by omega) (Ev.bind (impl_IsGrant.ev _ _ _ _ _ _) (ev_both (fun h0 => ?_) (fun _ => Ev.now _)))))
  refine ev_both (fun _ => Ev.now _) (fun h1 => ?_)
  refine ev_both (fun h2 => ?_) (fun h2 => ?_)
  · refine ev_pos (by omega) (ev_pos (by omega) (ev_both (fun h3 => ev_both (fun _ => Ev.now _) (fun h4 => ?_)) (fun _ => Ev.now _)))
    exact absurd ⟨h0, h1, fun _ => ⟨h3, h4⟩⟩ q
  · exact absurd ⟨h0, h1, fun h => absurd h (by omega)⟩ q
theorem impl_ChainScopes.ev (l : List S64) (a b t : Int) (hl : l.length < 4611686018427387904) : Ev (fun k => impl_ChainScopes.f k l a b t) (chainV l a b t) := by
  unfold impl_ChainScopes.f
  refine ev_both (fun h => ?_) (fun h => ?_)
  · rw [chainV_no (fun g => by omega)]; exact Ev.now _
  by_cases h3 : ∀ i, i < l.length → linkOk l t i
  · refine scan_miss (n := l.length) (fun k i => impl_ChainScopes.l0 k l a b t (chainAcc l i.toNat) l (l.length : Int) i) (fun i => ¬ linkOk l t i) _ ?_ (fun i hi q r ih => impl_ChainScopes.go l a b t hl i hi q r ih) (fun i hi q => q (h3 i hi))
    have e1 := wrap_in (x := (l.length : Int) - 1) (show -9223372036854775808 ≤ (l.length : Int) - 1 by omega) (show (l.length : Int) - 1 ≤ 9223372036854775807 by omega)
    refine Ev.step (fun k => by rw [impl_ChainScopes.l0]) (ev_neg (by omega) (ev_pos (by omega) ?_))
    rw [e1]
    refine ev_both (fun h1 => ev_pos (by omega) (ev_pos (by omega) (ev_both (fun h2 => ?_) (fun h2 => ?_)))) (fun h1 => ?_)
    · rw [chainV_yes ⟨by omega, h1, h2, h3⟩]; exact Ev.now _
    · rw [chainV_no (fun g => h2 g.2.2.1)]; exact Ev.now _
    · rw [chainV_no (fun g => h1 g.2.1)]; exact Ev.now _
  · rw [chainV_no (fun g => h3 g.2.2.2)]
    exact scan_hit (n := l.length) (fun k i => impl_ChainScopes.l0 k l a b t (chainAcc l i.toNat) l (l.length : Int) i) (fun i => ¬ linkOk l t i) 0 (fun i hi q r ih => impl_ChainScopes.go l a b t hl i hi q r ih) (fun i hi q => impl_ChainScopes.stop l a b t hl i hi q) (link_bad h3)

theorem impl_CanAct.ev (l : List S64) (a b s t : Int) (hl : l.length < 4611686018427387904) : Ev (fun k => impl_CanAct.f k l a b s t) (canActV l a b s t) := by
  have yes : (s = 1 ∨ s = 2 ∨ s = 4) → Ev (fun k => impl_CanAct.j0 k l a b s t false) (canActV l a b s t) := by
    intro h
    unfold canActV
    rw [if_pos h]
    refine Ev.step (fun k => by rw [impl_CanAct.j0]) (ev_neg (by simp) ?_)
    refine Ev.bind (impl_ChainScopes.ev l a b t hl) (ev_both (fun h0 => ?_) (fun h0 => ?_))
    · rw [decide_eq_false (fun g => g h0)]
      refine ev_both (fun h1 => Ev.bind (impl_PrivateKey.ev _) (ev_const ?_)) (fun h1 => ?_)
      · by_cases h2 : privateKeyV a = 0 <;> simp [h1, h2]
      · rw [if_neg (fun g => h1 g.1)]; exact Ev.now _
    · rw [decide_eq_true h0]
      refine ev_const ?_
      split <;> rfl
  unfold impl_CanAct.f
  refine ev_both (fun h => yes (by omega)) (fun h1 => ev_both (fun h => yes (by omega)) (fun h2 => ?_))
  by_cases h4 : s = 4
  · rw [show (s != 4) = false by simpa using h4]
    exact yes (by omega)
  · rw [show (s != 4) = true by simpa using h4, canActV_no (by omega)]
    exact Ev.step (fun k => by rw [impl_CanAct.j0]) (ev_pos rfl (Ev.now _))

theorem FnExactCanAct : Claim := by
  intro l a b s t ⟨hl, _⟩ _ _ _ _
  refine Ev.rounds (r := true) ?_
  unfold laws_FnExactCanAct.f
  by_cases h : (l.length : Int) ≤ 1048576
  · refine ev_bindc (laws_szGrantS.fits l _ (by omega) h) (ev_neg (by omega) ?_)
    have hm : (l.map cvGrant).length ≤ 1048576 := by rw [List.length_map]; omega
    refine Ev.bind (laws_toGrantS.ev l (by omega)) ?_
    refine Ev.bind (spec_CanAct.ev (l.map cvGrant) a b s t (by omega)) ?_
    refine Ev.bind (laws_toGrantS.ev l (by omega)) ?_
    refine Ev.bind (impl_CanAct.ev (l.map cvGrant) a b s t (by omega)) (ev_neg (by simp) ?_)
    refine Ev.bind (laws_toGrantS.ev l (by omega)) ?_
    exact Ev.bind (laws_eqGrantS.ev (l.map cvGrant) (by omega)) (ev_pos rfl (Ev.now _))
  · exact ev_bindc (laws_szGrantS.big l _ (by omega) (by omega) (by omega) hl) (ev_pos (by omega) (Ev.now _))

end Go.Proofs.Ytjggdakbphjomaa.Pure
