/- The law FnNarrowing answers true, for all arguments that the row lets in; no condition besides. Here: the plain side, over the printed functions. -/
import Derived.Test.YtanoaneoanpkkaaZFnNarrowingx7
import Derived.Test.YtanoaneoanpkkaaKitV
namespace Go.Proofs.Ytanoaneoanpkkaa.Pure
open Go.RowKit Go.Proofs.Ytanoaneoanpkkaa.ZFnNarrowing Go.Proofs.YtanoaneoanpkkaaW.PrintWords Go.Proofs.YtanoaneoanpkkaaW.PrintLast Go.Proofs.YtanoaneoanpkkaaW.PrintMore Go.Proofs.Ytanoaneoanpkkaa.Kit
set_option linter.unusedVariables false
set_option linter.unusedSimpArgs false

/-- What is to be proved of the printed functions. -/
def Claim : Prop := ∀ (l0 : List Int), (l0.length ≤ maxLen ∧ ∀ y_ ∈ l0, (Lit.int .u8 y_).wf = true) → ∃ k, laws_FnNarrowing.f k l0 = some true

theorem laws_big.val (l : List Int) : laws_big.f l = some (decide ((l.length : Int) > 1048576)) := rfl

def atV (l : List Int) (i : Nat) : Int := if i < l.length then l.getD i 0 else Int.tmod ((i : Int) * 31 + l.length * 7) 256
theorem atV_range (l : List Int) (i : Nat) (hw : ∀ y ∈ l, (Lit.int .u8 y).wf = true) : 0 ≤ atV l i ∧ atV l i ≤ 255 := by
  unfold atV
  split
  · rename_i h
    rw [getD_nat h]
    have := hw l[i] (List.getElem_mem h)
    simp [Lit.wf] at this
    have a : IntKind.u8.min = 0 := rfl
    have b : IntKind.u8.max = 255 := rfl
    omega
  · rw [Int.tmod_eq_emod_of_nonneg (by omega)]
    omega
theorem laws_at.val (l : List Int) (i : Nat) (hl : l.length ≤ 1048576) (hi : i < 1000000) (hw : ∀ y ∈ l, (Lit.int .u8 y).wf = true) : laws_at.f l (i : Int) = some (atV l i) := by
  have r := atV_range l i hw
  unfold laws_at.f
  unfold atV at r ⊢
  by_cases h : i < l.length
  · rw [if_pos (by omega), if_pos (by omega), rd_get h, if_pos h, getD_nat h]
    rw [if_pos h, getD_nat h] at r
    rw [wrap_in (by omega) (by omega)]
  · rw [if_neg (by omega), if_neg h, wrap_in (x := (i : Int) * 31) (by omega) (by omega), wrap_in (x := (l.length : Int) * 7) (by omega) (by omega), wrap_in (by omega) (by omega)]

def modV (p q : Int) : Int := if 1 ≤ q ∧ q ≤ 1000000000000 then p % q else 0
theorem modV_range {p q : Int} (h : 1 ≤ q) : 0 ≤ modV p q ∧ modV p q < q := by
  unfold modV
  split
  · exact ⟨Int.emod_nonneg _ (by omega), Int.emod_lt_of_pos _ (by omega)⟩
  · omega
theorem tmod_range (p : Int) {q : Int} (h : 1 ≤ q) : -q < Int.tmod p q ∧ Int.tmod p q < q := by
  have h1 := Int.tmod_lt_of_pos p (show 0 < q by omega)
  have h2 := Int.lt_tmod_of_pos p (show 0 < q by omega)
  exact ⟨h2, h1⟩
theorem tmod_add (p : Int) {q : Int} (h : 1 ≤ q) : (Int.tmod p q + q) % q = p % q := by
  have e := Int.tmod_def p q
  have : Int.tmod p q + q = p + q * (1 - p.tdiv q) := by rw [e, Int.mul_sub]; omega
  rw [this, Int.add_mul_emod_self_left]

def hashStep (h v : Int) : Int := Int.tmod (wrap64 ((wrap64 ((wrap64 (h * 1000003)) + modV v 2147483647)) + 13)) 2147483647
def hashV (l : List Int) : Int := l.foldl hashStep 11

def keyedHashV (key : Int) (l : List Int) : Int := hashV ((key :: l) ++ [key])

def signV (p : Int) (m : List Int) : Int := if 1 ≤ p ∧ p ≤ 2147483646 then keyedHashV p ([139, (m.length : Int)] ++ m) else 0

def publicKeyV (a : Int) : Int := if 1 ≤ a ∧ a ≤ 2147483646 then a * 48271 % 2147483647 else 0
theorem publicKeyV_range (a : Int) : 0 ≤ publicKeyV a ∧ publicKeyV a ≤ 2147483646 := by
  unfold publicKeyV
  split <;> omega

def privateKeyV (a : Int) : Int := if 1 ≤ a ∧ a ≤ 2147483646 then a * 1899818559 % 2147483647 else 0
theorem privateKeyV_range (a : Int) : 0 ≤ privateKeyV a ∧ privateKeyV a ≤ 2147483646 := by
  unfold privateKeyV
  split <;> omega
theorem private_ne (a : Int) : privateKeyV a = 0 ↔ ¬ (1 ≤ a ∧ a ≤ 2147483646) := by
  unfold privateKeyV
  split <;> omega
theorem public_private (a : Int) (h : 1 ≤ a ∧ a ≤ 2147483646) : publicKeyV (privateKeyV a) = a := by
  have h1 : privateKeyV a = a * 1899818559 % 2147483647 := if_pos h
  have h2 : 1 ≤ privateKeyV a ∧ privateKeyV a ≤ 2147483646 := by omega
  unfold publicKeyV
  rw [if_pos h2, h1]
  omega
theorem private_public (a : Int) (h : 1 ≤ a ∧ a ≤ 2147483646) : privateKeyV (publicKeyV a) = a := by
  have h1 : publicKeyV a = a * 48271 % 2147483647 := if_pos h
  have h2 : 1 ≤ publicKeyV a ∧ publicKeyV a ≤ 2147483646 := by omega
  unfold privateKeyV
  rw [if_pos h2, h1]
  omega

def verifyV (p : Int) (m : List Int) (s : Int) : Bool := if privateKeyV p = 0 then false else signV (privateKeyV p) m == s

def isGrantV (a b c d e f : Int) : Bool := if privateKeyV a = 0 then false else if privateKeyV b = 0 then false else if a = b then false else if (1 ≤ c ∧ c ≤ 7) then (if (0 ≤ d ∧ d ≤ 1000000) then (if (0 ≤ e ∧ e ≤ 5) then verifyV a [263, a, b, c, d, e] f else false) else false) else false

def makeGrantV (p t s u d : Int) : Int × Int × Int × Int × Int × Int × Bool := if isGrantV (publicKeyV p) t s u d (signV p [263, publicKeyV p, t, s, u, d]) = true then (publicKeyV p, t, s, u, d, signV p [263, publicKeyV p, t, s, u, d], true) else (0, 0, 0, 0, 0, 0, false)

def narrowV (a b c d e f p t s : Int) : Int × Int × Int × Int × Int × Int × Bool := if isGrantV a b c d e f = true then (if publicKeyV p = b then makeGrantV p t (Go.bits .and .i64 c s) d (wrap64 (e - 1)) else (0, 0, 0, 0, 0, 0, false)) else (0, 0, 0, 0, 0, 0, false)

theorem impl_power.evM : Ev (fun k => impl_power.f k 48271 2147483645 2147483647) 1899818559 :=
  Ev.of (k := 40) (fun k => impl_power.mono _ _ _ k) (by decide +kernel)

theorem impl_InRange.val (a b c : Int) : impl_InRange.f a b c = some (decide (b ≤ a ∧ a ≤ c)) := by
  unfold impl_InRange.f
  by_cases h : b ≤ a
  · rw [if_pos h]; simp [h]
  · rw [if_neg h]; simp [h]

theorem impl_IsValidKey.val (a : Int) : impl_IsValidKey.f a = some (decide (1 ≤ a ∧ a ≤ 2147483646)) := by
  unfold impl_IsValidKey.f
  rw [impl_InRange.val]
  rfl

theorem impl_PrivateKey.ev (a : Int) : Ev (fun k => impl_PrivateKey.f k a) (privateKeyV a) := by
  unfold impl_PrivateKey.f
  rw [impl_IsValidKey.val]
  simp only [Option.bind_some, decide_eq_true_eq]
  by_cases h : 1 ≤ a ∧ a ≤ 2147483646
  · have e : privateKeyV a = a * 1899818559 % 2147483647 := if_pos h
    refine ev_pos h (Ev.bind impl_power.evM ?_)
    rw [wrap_in (by omega) (by omega), Int.tmod_eq_emod_of_nonneg (by omega), ← e]
    exact Ev.now _
  · refine ev_neg h ?_
    rw [(private_ne a).2 h]
    exact Ev.now _

theorem impl_Mod.ev (p q : Int) : Ev (fun k => impl_Mod.f k p q) (modV p q) := by
  unfold impl_Mod.f modV
  by_cases h1 : q < 1
  · refine ev_pos h1 (Ev.step (fun k => by rw [impl_Mod.j0]) (ev_pos rfl ?_))
    rw [if_neg (show ¬ (1 ≤ q ∧ q ≤ 1000000000000) by omega)]
    exact Ev.now _
  · refine ev_neg h1 (Ev.step (fun k => by rw [impl_Mod.j0]) ?_)
    by_cases h2 : q > 1000000000000
    · refine ev_pos (by simpa using h2) ?_
      rw [if_neg (show ¬ (1 ≤ q ∧ q ≤ 1000000000000) by omega)]
      exact Ev.now _
    · refine ev_neg (by simpa using h2) (ev_neg (by omega) ?_)
      rw [if_pos (show 1 ≤ q ∧ q ≤ 1000000000000 by omega)]
      have r1 := tmod_range p (show 1 ≤ q by omega)
      have r2 := tmod_add p (show 1 ≤ q by omega)
      by_cases h3 : Int.tmod p q < 0
      · refine ev_pos h3 (ev_const ?_)
        rw [wrap_in (by omega) (by omega), ← r2, Int.emod_eq_of_lt (by omega) (by omega)]
      · refine ev_neg h3 (ev_const ?_)
        rw [← r2, Int.add_emod_right, Int.emod_eq_of_lt (by omega) (by omega)]

theorem impl_Hash.ev (l : List Int) (hl : l.length < 4611686018427387904) : Ev (fun k => impl_Hash.f k l) (hashV l) := by
  unfold impl_Hash.f
  refine scan0 (xs := l) (fun k h i => impl_Hash.l0 k h l l.length i) (fun ys h => ys.foldl hashStep h) (fun s => ?_) (fun i h s ih => ?_) 11
  · refine Ev.step (fun k => by rw [impl_Hash.l0]) ?_
    exact ev_neg (by omega) (Ev.now _)
  · refine Ev.step (fun k => by rw [impl_Hash.l0]) ?_
    refine ev_pos (by omega) (ev_pos (by omega) (ev_pos (by omega) ?_))
    rw [rd_get h, wrap_succ (by omega)]
    exact Ev.bind (impl_Mod.ev _ _) (ih _)

theorem impl_joined.ev (l : List Int) (ls : List (List Int)) (hls : ls.length < 4611686018427387904) (hl : l.length + (ls.flatten).length < 17592186044416) : Ev (fun k => impl_joined.f k l ls) (l ++ ls.flatten) := by
  unfold impl_joined.f
  simp only [Option.bind_some, List.nil_append, List.length_nil]
  refine ev_pos (by omega) ?_
  have key : ∀ (d i : Nat), i + d = ls.length → ∀ s : List Int, s.length + ((ls.drop i).flatten).length < 17592186044416 → Ev (fun k => impl_joined.l0 k s ls ls.length (i : Int)) (s ++ (ls.drop i).flatten) := by
    intro d
    induction d with
    | zero =>
      intro i hi s hs
      rw [List.drop_of_length_le (by omega)]
      refine Ev.step (fun k => by rw [impl_joined.l0]) ?_
      refine ev_neg (by omega) ?_
      simpa using Ev.now s
    | succ d ih =>
      intro i hi s hs
      have h : i < ls.length := by omega
      rw [List.drop_eq_getElem_cons h] at hs ⊢
      simp only [List.flatten_cons, List.length_append] at hs ⊢
      refine Ev.step (fun k => by rw [impl_joined.l0]) ?_
      refine ev_pos (by omega) (ev_pos (by omega) (ev_pos (by omega) ?_))
      simp only [rd_L2, getD_get h, wrap_succ (show i < 4611686018427387904 by omega)]
      refine ev_pos (by omega) ?_
      have := ih (i + 1) (by omega) (s ++ ls[i]) (by rw [List.length_append]; omega)
      rwa [List.append_assoc] at this
  exact key ls.length 0 (by omega) l hl

theorem impl_KeyedHash.ev (key : Int) (l : List Int) (hl : l.length < 17592186044400) : Ev (fun k => impl_KeyedHash.f k key l) (keyedHashV key l) := by
  unfold impl_KeyedHash.f keyedHashV
  refine Ev.bind (impl_joined.ev _ _ (by simp) (by simp; omega)) ?_
  simp only [List.flatten_cons, List.flatten_nil, List.append_nil]
  exact Ev.bind (impl_Hash.ev _ (by simp; omega)) (Ev.now _)

theorem impl_SignMessage.ev (p : Int) (m : List Int) (hm : m.length < 17592186044000) : Ev (fun k => impl_SignMessage.f k p m) (signV p m) := by
  unfold impl_SignMessage.f signV
  rw [impl_IsValidKey.val]
  simp only [Option.bind_some, decide_eq_true_eq]
  refine ev_ite (fun _ => ?_) (fun _ => Ev.now _)
  refine Ev.bind (impl_joined.ev _ _ (by simp) (by simp; omega)) ?_
  simp only [List.flatten_cons, List.flatten_nil, List.append_nil]
  exact Ev.bind (impl_KeyedHash.ev _ _ (by simp; omega)) (Ev.now _)

theorem impl_VerifySignature.ev (p : Int) (m : List Int) (s : Int) (hm : m.length < 17592186044000) : Ev (fun k => impl_VerifySignature.f k p m s) (verifyV p m s) := by
  unfold impl_VerifySignature.f verifyV
  exact Ev.bind (impl_PrivateKey.ev p) (ev_ite (fun _ => Ev.now _) (fun _ => Ev.bind (impl_SignMessage.ev _ m hm) (Ev.now _)))

theorem impl_IsGrant.ev (a b c d e f : Int) : Ev (fun k => impl_IsGrant.f k a b c d e f) (isGrantV a b c d e f) := by
  unfold impl_IsGrant.f isGrantV
  simp only [impl_InRange.val, Option.bind_some, decide_eq_true_eq]
  refine Ev.bind (impl_PrivateKey.ev a) (ev_ite (fun _ => Ev.now _) (fun _ => ?_))
  refine Ev.bind (impl_PrivateKey.ev b) (ev_ite (fun _ => Ev.now _) (fun _ => ?_))
  refine ev_ite (fun _ => Ev.now _) (fun _ => ev_ite (fun _ => ev_ite (fun _ => ev_ite (fun _ => ?_) (fun _ => Ev.now _)) (fun _ => Ev.now _)) (fun _ => Ev.now _))
  exact ev_bindc rfl (Ev.bind (impl_VerifySignature.ev _ _ _ (by simp)) (Ev.now _))

theorem impl_PublicKey.val (a : Int) : impl_PublicKey.f a = some (publicKeyV a) := by
  unfold impl_PublicKey.f publicKeyV
  rw [impl_IsValidKey.val]
  simp only [Option.bind_some, decide_eq_true_eq]
  by_cases h : 1 ≤ a ∧ a ≤ 2147483646
  · rw [if_pos h, if_pos h, wrap_in (by omega) (by omega), Int.tmod_eq_emod_of_nonneg (by omega)]
  · rw [if_neg h, if_neg h]

theorem impl_MakeGrant.ev (p t s u d : Int) : Ev (fun k => impl_MakeGrant.f k p t s u d) (makeGrantV p t s u d) := by
  unfold impl_MakeGrant.f makeGrantV
  refine ev_bindc (impl_PublicKey.val p) (ev_bindc rfl (Ev.bind (impl_SignMessage.ev _ _ (by simp)) (Ev.bind (impl_IsGrant.ev _ _ _ _ _ _) ?_)))
  exact ev_ite (fun _ => Ev.now _) (fun _ => Ev.now _)

theorem impl_NarrowGrant.ev (a b c d e f p t s : Int) : Ev (fun k => impl_NarrowGrant.f k a b c d e f p t s) (narrowV a b c d e f p t s) := by
  unfold impl_NarrowGrant.f narrowV
  refine Ev.bind (impl_IsGrant.ev _ _ _ _ _ _) (ev_ite (fun _ => ?_) (fun _ => Ev.now _))
  refine ev_bindc (impl_PublicKey.val p) (ev_ite (fun _ => ?_) (fun _ => Ev.now _))
  exact Ev.bind (impl_MakeGrant.ev _ _ _ _ _) (Ev.now _)

def linkOk (l : List S26) (t : Int) (i : Nat) : Prop := isGrantV (rd_T26 l i).f0 (rd_T26 l i).f1 (rd_T26 l i).f2 (rd_T26 l i).f3 (rd_T26 l i).f4 (rd_T26 l i).f5 = true ∧ ¬ (rd_T26 l i).f3 < t ∧ (0 < i → (rd_T26 l i).f0 = (rd_T26 l ((i : Int) - 1)).f1 ∧ ¬ (rd_T26 l i).f4 ≥ (rd_T26 l ((i : Int) - 1)).f4)
def chainAcc (l : List S26) : Nat → Int
  | 0 => 7
  | i + 1 => Go.bits .and .i64 (chainAcc l i) (rd_T26 l (i : Int)).f2
noncomputable def chainV (l : List S26) (a b t : Int) : Int := if dec (0 < l.length ∧ (rd_T26 l 0).f0 = a ∧ (rd_T26 l ((l.length : Int) - 1)).f1 = b ∧ ∀ i, i < l.length → linkOk l t i) = true then chainAcc l l.length else 0
theorem chainV_no {l : List S26} {a b t : Int} (h : ¬ (0 < l.length ∧ (rd_T26 l 0).f0 = a ∧ (rd_T26 l ((l.length : Int) - 1)).f1 = b ∧ ∀ i, i < l.length → linkOk l t i)) : chainV l a b t = 0 := by
  unfold chainV
  rw [dec_false h]
  rfl
theorem chainV_yes {l : List S26} {a b t : Int} (h : 0 < l.length ∧ (rd_T26 l 0).f0 = a ∧ (rd_T26 l ((l.length : Int) - 1)).f1 = b ∧ ∀ i, i < l.length → linkOk l t i) : chainV l a b t = chainAcc l l.length := by
  unfold chainV
  rw [dec_true h]
  rfl
theorem link_bad {l : List S26} {t : Int} (h : ¬ ∀ i, i < l.length → linkOk l t i) : ∃ i, i < l.length ∧ ¬ linkOk l t i :=
  Classical.byContradiction fun no => h fun i hi => Classical.byContradiction fun q => no ⟨i, hi, q⟩

theorem impl_ChainScopes.go (l : List S26) (a b t : Int) (hl : l.length < 4611686018427387904) (i : Nat) (hi : i < l.length) (q : ¬ ¬ linkOk l t i) (r : Int) (ih : Ev (fun k => impl_ChainScopes.l0 k l a b t (chainAcc l (i + 1)) l (l.length : Int) ((i + 1 : Nat) : Int)) r) : Ev (fun k => impl_ChainScopes.l0 k l a b t (chainAcc l i) l (l.length : Int) (i : Int)) r := by
  have ⟨q0, q1, q2⟩ := Classical.not_not.1 q
  have e1 := wrap_in (x := (i : Int) - 1) (show -9223372036854775808 ≤ (i : Int) - 1 by omega) (show (i : Int) - 1 ≤ 9223372036854775807 by omega)
  refine Ev.step (fun k => by rw [impl_ChainScopes.l0]) ?_
  rw [e1, wrap_succ (i := i) (by omega)]
  refine ev_pos (by omega) (ev_pos (by omega) (ev_pos (by omega) (Ev.bind (impl_IsGrant.ev _ _ _ _ _ _) (ev_pos q0 (ev_neg q1 ?_)))))
  refine ev_both (fun h => ?_) (fun _ => ih)
  have q3 := q2 (by omega)
  exact ev_pos (by omega) (ev_pos (by omega) (ev_pos q3.1 (ev_neg q3.2 ih)))
theorem impl_ChainScopes.stop (l : List S26) (a b t : Int) (hl : l.length < 4611686018427387904) (i : Nat) (hi : i < l.length) (q : ¬ linkOk l t i) : Ev (fun k => impl_ChainScopes.l0 k l a b t (chainAcc l i) l (l.length : Int) (i : Int)) 0 := by
  have e1 := wrap_in (x := (i : Int) - 1) (show -9223372036854775808 ≤ (i : Int) - 1 by omega) (show (i : Int) - 1 ≤ 9223372036854775807 by omega)
  refine Ev.step (fun k => by rw [impl_ChainScopes.l0]) ?_
  rw [e1]
  refine ev_pos (by omega) (ev_pos (by omega) (ev_pos (by omega) (Ev.bind (impl_IsGrant.ev _ _ _ _ _ _) (ev_both (fun h0 => ?_) (fun _ => Ev.now _)))))
  refine ev_both (fun _ => Ev.now _) (fun h1 => ?_)
  refine ev_both (fun h2 => ?_) (fun h2 => ?_)
  · refine ev_pos (by omega) (ev_pos (by omega) (ev_both (fun h3 => ev_both (fun _ => Ev.now _) (fun h4 => ?_)) (fun _ => Ev.now _)))
    exact absurd ⟨h0, h1, fun _ => ⟨h3, h4⟩⟩ q
  · exact absurd ⟨h0, h1, fun h => absurd h (by omega)⟩ q
theorem impl_ChainScopes.ev (l : List S26) (a b t : Int) (hl : l.length < 4611686018427387904) : Ev (fun k => impl_ChainScopes.f k l a b t) (chainV l a b t) := by
  unfold impl_ChainScopes.f
  refine ev_both (fun h => ?_) (fun h => ?_)
  · rw [chainV_no (fun g => by omega)]; exact Ev.now _
  by_cases h3 : ∀ i, i < l.length → linkOk l t i
  · refine scan_miss (n := l.length) (fun k i => impl_ChainScopes.l0 k l a b t (chainAcc l i.toNat) l (l.length : Int) i) (fun i => ¬ linkOk l t i) _ ?_ (fun i hi q r ih => impl_ChainScopes.go l a b t hl i hi q r ih) (fun i hi q => q (h3 i hi))
    have e1 := wrap_in (x := (l.length : Int) - 1) (show -9223372036854775808 ≤ (l.length : Int) - 1 by omega) (show (l.length : Int) - 1 ≤ 9223372036854775807 by omega)
    refine Ev.step (fun k => by rw [impl_ChainScopes.l0]) (ev_neg (by omega) (ev_pos (by omega) ?_))
    rw [e1]
    refine ev_both (fun h1 => ev_pos (by omega) (ev_pos (by omega) (ev_both (fun h2 => ?_) (fun h2 => ?_)))) (fun h1 => ?_)
    · rw [chainV_yes ⟨by omega, h1, h2, h3⟩]; exact Ev.now _
    · rw [chainV_no (fun g => h2 g.2.2.1)]; exact Ev.now _
    · rw [chainV_no (fun g => h1 g.2.1)]; exact Ev.now _
  · rw [chainV_no (fun g => h3 g.2.2.2)]
    exact scan_hit (n := l.length) (fun k i => impl_ChainScopes.l0 k l a b t (chainAcc l i.toNat) l (l.length : Int) i) (fun i => ¬ linkOk l t i) 0 (fun i hi q r ih => impl_ChainScopes.go l a b t hl i hi q r ih) (fun i hi q => impl_ChainScopes.stop l a b t hl i hi q) (link_bad h3)

theorem and8 (a b : Nat) (ha : a < 8) (hb : b < 8) : Go.bits .and .i64 (a : Int) (b : Int) = ((a &&& b : Nat) : Int) :=
  (by decide +kernel : ∀ a b : Fin 8, Go.bits .and .i64 (a.val : Int) (b.val : Int) = ((a.val &&& b.val : Nat) : Int)) ⟨a, ha⟩ ⟨b, hb⟩
theorem andNot8 (a b : Nat) (ha : a < 8) (hb : b < 8) (h : a &&& b = a) : Go.bits .andNot .i64 (a : Int) (b : Int) = 0 :=
  (by decide +kernel : ∀ a b : Fin 8, a.val &&& b.val = a.val → Go.bits .andNot .i64 (a.val : Int) (b.val : Int) = 0) ⟨a, ha⟩ ⟨b, hb⟩ h
theorem andNot0 (b : Int) : Go.bits .andNot .i64 0 b = 0 := by
  show IntKind.i64.wrap ((BitVec.ofInt 64 0 &&& ~~~BitVec.ofInt 64 b).toNat : Nat) = 0
  rw [show BitVec.ofInt 64 0 = 0#64 from rfl, BitVec.zero_and]
  rfl
theorem and0 (b : Int) : Go.bits .and .i64 0 b = 0 := by
  show IntKind.i64.wrap ((BitVec.ofInt 64 0 &&& BitVec.ofInt 64 b).toNat : Nat) = 0
  rw [show BitVec.ofInt 64 0 = 0#64 from rfl, BitVec.zero_and]
  rfl
theorem and_lt8 (a b : Nat) (ha : a < 8) : a &&& b < 8 := Nat.lt_of_le_of_lt Nat.and_le_left ha

theorem chain_of {l : List S26} {a b t : Int} (h : chainV l a b t ≠ 0) : 0 < l.length ∧ (rd_T26 l 0).f0 = a ∧ (rd_T26 l ((l.length : Int) - 1)).f1 = b ∧ ∀ i, i < l.length → linkOk l t i :=
  Classical.byContradiction fun g => h (chainV_no g)
theorem grant_scopes {a b c d e f : Int} (h : isGrantV a b c d e f = true) : privateKeyV a ≠ 0 ∧ (1 ≤ c ∧ c ≤ 7) ∧ (0 ≤ d ∧ d ≤ 1000000) := by
  unfold isGrantV at h
  split at h
  · cases h
  · rename_i h0
    split at h
    · cases h
    · split at h
      · cases h
      · split at h
        · rename_i h1
          split at h
          · rename_i h2; exact ⟨h0, h1, h2⟩
          · cases h
        · cases h
/-- The rights that are left are among those of each grant. -/
theorem chainAcc_sub (l : List S26) (n : Nat) (h : ∀ i, i < n → 1 ≤ (rd_T26 l (i : Int)).f2 ∧ (rd_T26 l (i : Int)).f2 ≤ 7) : ∃ m : Nat, m < 8 ∧ chainAcc l n = (m : Int) ∧ ∀ j, j < n → ∃ c : Nat, c < 8 ∧ (rd_T26 l (j : Int)).f2 = (c : Int) ∧ m &&& c = m := by
  induction n with
  | zero => exact ⟨7, by omega, rfl, fun j hj => by omega⟩
  | succ n ih =>
    obtain ⟨m, h1, h2, h3⟩ := ih (fun i hi => h i (by omega))
    have hc := h n (by omega)
    obtain ⟨c, hc'⟩ : ∃ c : Nat, (rd_T26 l (n : Int)).f2 = (c : Int) := ⟨(rd_T26 l (n : Int)).f2.toNat, by omega⟩
    have c8 : c < 8 := by omega
    refine ⟨m &&& c, and_lt8 m c h1, ?_, fun j hj => ?_⟩
    · rw [chainAcc, h2, hc', and8 m c h1 c8]
    · by_cases e : j = n
      · subst e
        exact ⟨c, c8, hc', by rw [Nat.and_assoc, Nat.and_self]⟩
      · obtain ⟨d, d8, hd, hm⟩ := h3 j (by omega)
        exact ⟨d, d8, hd, by rw [Nat.and_assoc, Nat.and_comm c d, ← Nat.and_assoc, hm]⟩
theorem chain_sub {l : List S26} {a b t : Int} : ∃ m : Nat, m < 8 ∧ chainV l a b t = (m : Int) ∧ ∀ j, j < l.length → Go.bits .andNot .i64 (m : Int) (rd_T26 l (j : Int)).f2 = 0 := by
  by_cases h : chainV l a b t = 0
  · exact ⟨0, by omega, h, fun j _ => andNot0 _⟩
  · have g := chain_of h
    obtain ⟨m, h1, h2, h3⟩ := chainAcc_sub l l.length (fun i hi => (grant_scopes (g.2.2.2 i hi).1).2.1)
    refine ⟨m, h1, (chainV_yes g).trans h2, fun j hj => ?_⟩
    obtain ⟨c, c8, hc, hm⟩ := h3 j hj
    rw [hc]
    exact andNot8 m c h1 c8 hm
theorem chain_at {l : List S26} {a b t : Int} (u : Int) (h : chainV l a b t ≠ 0) (hu : ∀ i, i < l.length → ¬ (rd_T26 l (i : Int)).f3 < u) : chainV l a b u = chainV l a b t := by
  have g := chain_of h
  rw [chainV_yes g]
  exact chainV_yes ⟨g.1, g.2.1, g.2.2.1, fun i hi => ⟨(g.2.2.2 i hi).1, hu i hi, (g.2.2.2 i hi).2.2⟩⟩
theorem chain_past {l : List S26} {a b : Int} (u : Int) (i : Nat) (hi : i < l.length) (hu : (rd_T26 l (i : Int)).f3 < u) : chainV l a b u = 0 :=
  chainV_no fun g => (g.2.2.2 i hi).2.1 hu

theorem verify_sign (p : Int) (m : List Int) (h : 1 ≤ p ∧ p ≤ 2147483646) : verifyV (publicKeyV p) m (signV p m) = true := by
  unfold verifyV
  rw [private_public p h, if_neg (by omega)]
  simp

theorem grant_made (p t s u d : Int) (hp : 1 ≤ p ∧ p ≤ 2147483646) (ht : privateKeyV t ≠ 0) (hn : publicKeyV p ≠ t) (hs : 1 ≤ s ∧ s ≤ 7) (hu : 0 ≤ u ∧ u ≤ 1000000) (hd : 0 ≤ d ∧ d ≤ 5) : isGrantV (publicKeyV p) t s u d (signV p [263, publicKeyV p, t, s, u, d]) = true := by
  unfold isGrantV
  have h0 : privateKeyV (publicKeyV p) ≠ 0 := by rw [private_public p hp]; omega
  rw [if_neg h0, if_neg ht, if_neg hn, if_pos hs, if_pos hu, if_pos hd]
  exact verify_sign p _ hp
theorem isGrant_verify {a b c d e f : Int} (h : isGrantV a b c d e f = true) : (1 ≤ c ∧ c ≤ 7) ∧ (0 ≤ e ∧ e ≤ 5) ∧ verifyV a [263, a, b, c, d, e] f = true := by
  unfold isGrantV at h
  split at h
  · cases h
  · split at h
    · cases h
    · split at h
      · cases h
      · split at h
        · rename_i h1
          split at h
          · split at h
            · rename_i h2; exact ⟨h1, h2, h⟩
            · cases h
          · cases h
        · cases h

theorem makeGrant_yes (p t s u d : Int) (hp : 1 ≤ p ∧ p ≤ 2147483646) (ht : privateKeyV t ≠ 0) (hn : publicKeyV p ≠ t) (hs : 1 ≤ s ∧ s ≤ 7) (hu : 0 ≤ u ∧ u ≤ 1000000) (hd : 0 ≤ d ∧ d ≤ 5) : makeGrantV p t s u d = (publicKeyV p, t, s, u, d, signV p [263, publicKeyV p, t, s, u, d], true) := by
  unfold makeGrantV
  rw [if_pos (grant_made p t s u d hp ht hn hs hu hd)]
theorem makeGrant_no (p t s u d : Int) (h : ¬ ((1 ≤ s ∧ s ≤ 7) ∧ 0 ≤ d ∧ d ≤ 5)) : makeGrantV p t s u d = (0, 0, 0, 0, 0, 0, false) := by
  unfold makeGrantV
  rw [if_neg]
  intro g
  have := isGrant_verify g
  exact h ⟨this.1, this.2.1⟩

theorem hashStep_range (h v : Int) (h0 : 0 ≤ h) (h1 : h ≤ 2147483646) : 0 ≤ hashStep h v ∧ hashStep h v ≤ 2147483646 := by
  unfold hashStep
  have r := modV_range (p := v) (show (1 : Int) ≤ 2147483647 by omega)
  rw [wrap_in (x := h * 1000003) (by omega) (by omega), wrap_in (x := h * 1000003 + modV v 2147483647) (by omega) (by omega), wrap_in (by omega) (by omega), Int.tmod_eq_emod_of_nonneg (by omega)]
  omega
theorem hash_range (l : List Int) : 0 ≤ hashV l ∧ hashV l ≤ 2147483646 := by
  unfold hashV
  have key : ∀ (l : List Int) (h : Int), 0 ≤ h → h ≤ 2147483646 → 0 ≤ l.foldl hashStep h ∧ l.foldl hashStep h ≤ 2147483646 := by
    intro l
    induction l with
    | nil => intro h h0 h1; exact ⟨h0, h1⟩
    | cons v l ih => intro h h0 h1; have := hashStep_range h v h0 h1; exact ih _ this.1 this.2
  exact key l 11 (by omega) (by omega)

theorem hashStep_eq (h v : Int) (h0 : 0 ≤ h) (h1 : h ≤ 2147483646) (v0 : 0 ≤ v) (v1 : v ≤ 2147483646) : hashStep h v = (h * 1000003 + v + 13) % 2147483647 := by
  unfold hashStep
  have e : modV v 2147483647 = v := by
    unfold modV
    rw [if_pos (by omega)]
    omega
  rw [e, wrap_in (x := h * 1000003) (by omega) (by omega), wrap_in (x := h * 1000003 + v) (by omega) (by omega), wrap_in (by omega) (by omega), Int.tmod_eq_emod_of_nonneg (by omega)]
theorem cancel (x : Int) (h0 : -2147483647 < x) (h1 : x < 2147483647) (e : x * 1000003 % 2147483647 = 0) : x = 0 := by
  have d : (2147483647 : Int) ∣ x * 1000003 := Int.dvd_of_emod_eq_zero e
  have d1 : (2147483647 : Nat) ∣ x.natAbs * 1000003 := by
    have := Int.natAbs_dvd_natAbs.2 d
    rwa [Int.natAbs_mul] at this
  have d2 : (2147483647 : Int) ∣ x := Int.natAbs_dvd_natAbs.1 (Nat.Coprime.dvd_of_dvd_mul_right (by decide +kernel) d1)
  obtain ⟨y, hy⟩ := d2
  clear e d d1
  omega
theorem apart_lin (h h' v : Int) : h * 1000003 + v + 13 - (h' * 1000003 + v + 13) = (h - h') * 1000003 := by omega
/-- One step keeps what is apart apart: in the state, and in the value. -/
theorem hashStep_left (h h' v : Int) (h0 : 0 ≤ h) (h1 : h ≤ 2147483646) (g0 : 0 ≤ h') (g1 : h' ≤ 2147483646) (v0 : 0 ≤ v) (v1 : v ≤ 2147483646) (e : hashStep h v = hashStep h' v) : h = h' := by
  rw [hashStep_eq h v h0 h1 v0 v1, hashStep_eq h' v g0 g1 v0 v1] at e
  have e2 := Int.emod_eq_emod_iff_emod_sub_eq_zero.1 e
  rw [apart_lin] at e2
  clear e
  have := cancel (h - h') (by clear e2; omega) (by clear e2; omega) e2
  clear e2
  omega
theorem hashStep_right (h v v' : Int) (h0 : 0 ≤ h) (h1 : h ≤ 2147483646) (v0 : 0 ≤ v) (v1 : v ≤ 2147483646) (w0 : 0 ≤ v') (w1 : v' ≤ 2147483646) (e : hashStep h v = hashStep h v') : v = v' := by
  rw [hashStep_eq h v h0 h1 v0 v1, hashStep_eq h v' h0 h1 w0 w1] at e
  omega
theorem foldl_range (l : List Int) (h : Int) (h0 : 0 ≤ h) (h1 : h ≤ 2147483646) : 0 ≤ l.foldl hashStep h ∧ l.foldl hashStep h ≤ 2147483646 := by
  induction l generalizing h with
  | nil => exact ⟨h0, h1⟩
  | cons v l ih => have := hashStep_range h v h0 h1; exact ih _ this.1 this.2
theorem foldl_left (l : List Int) (hl : ∀ v ∈ l, 0 ≤ v ∧ v ≤ 2147483646) (h h' : Int) (h0 : 0 ≤ h) (h1 : h ≤ 2147483646) (g0 : 0 ≤ h') (g1 : h' ≤ 2147483646) (e : l.foldl hashStep h = l.foldl hashStep h') : h = h' := by
  induction l generalizing h h' with
  | nil => exact e
  | cons v l ih =>
    have r := hashStep_range h v h0 h1
    have r' := hashStep_range h' v g0 g1
    have hv := hl v (by simp)
    exact hashStep_left h h' v h0 h1 g0 g1 hv.1 hv.2 (ih (fun x hx => hl x (by simp [hx])) _ _ r.1 r.2 r'.1 r'.2 e)
/-- Two lists of numbers in range that differ in one place differ in their hashes. -/
theorem hash_ne (a b : List Int) (x y : Int) (hb : ∀ v ∈ b, 0 ≤ v ∧ v ≤ 2147483646) (hx : 0 ≤ x ∧ x ≤ 2147483646) (hy : 0 ≤ y ∧ y ≤ 2147483646) (e : hashV (a ++ x :: b) = hashV (a ++ y :: b)) : x = y := by
  unfold hashV at e
  simp only [List.foldl_append, List.foldl_cons] at e
  have r := foldl_range a 11 (by omega) (by omega)
  have rx := hashStep_range (a.foldl hashStep 11) x r.1 r.2
  have ry := hashStep_range (a.foldl hashStep 11) y r.1 r.2
  exact hashStep_right _ x y r.1 r.2 hx.1 hx.2 hy.1 hy.2 (foldl_left b hb _ _ rx.1 rx.2 ry.1 ry.2 e)

theorem sign_ne6 (p a b s s' u d : Int) (hp : 1 ≤ p ∧ p ≤ 2147483646) (hs : 0 ≤ s ∧ s ≤ 2147483646) (hs' : 0 ≤ s' ∧ s' ≤ 2147483646) (hu : 0 ≤ u ∧ u ≤ 2147483646) (hd : 0 ≤ d ∧ d ≤ 2147483646) (e : signV p [263, a, b, s, u, d] = signV p [263, a, b, s', u, d]) : s = s' := by
  unfold signV at e
  rw [if_pos hp, if_pos hp] at e
  unfold keyedHashV at e
  exact hash_ne [p, 139, 6, 263, a, b] [u, d, p] s s' (by simp; omega) hs hs' e

theorem laws_sameInts.ev (l : List Int) (hl : l.length < 4611686018427387904) : Ev (fun k => laws_sameInts.f k l l) true := by
  unfold laws_sameInts.f
  refine ev_pos rfl ?_
  refine scan0 (xs := l) (fun k (_ : Unit) i => laws_sameInts.l0 k l l i) (fun _ _ => true) (fun s => ?_) (fun i h s ih => ?_) ()
  · refine Ev.step (fun k => by rw [laws_sameInts.l0]) ?_
    exact ev_neg (by omega) (Ev.now _)
  · refine Ev.step (fun k => by rw [laws_sameInts.l0]) ?_
    refine ev_pos (by omega) (ev_pos (by omega) (ev_pos (by omega) (ev_pos rfl ?_)))
    rw [wrap_succ (by omega)]
    exact ih ()

theorem spec_l1In.val (a b c : Int) : spec_l1In.f a b c = some (decide (b ≤ a ∧ a ≤ c)) := by
  unfold spec_l1In.f
  by_cases h : a ≥ b
  · rw [if_pos h]; simp only [ge_iff_le] at h; simp [h]
  · rw [if_neg h]; simp only [ge_iff_le] at h; simp [h]

theorem spec_IsValidKey.val (a : Int) : spec_IsValidKey.f a = some (decide (1 ≤ a ∧ a ≤ 2147483646)) := by
  unfold spec_IsValidKey.f
  rw [spec_l1In.val]
  rfl

theorem spec_PublicKey.val (a : Int) : spec_PublicKey.f a = some (publicKeyV a) := by
  unfold spec_PublicKey.f publicKeyV
  rw [spec_IsValidKey.val]
  simp only [Option.bind_some, decide_eq_true_eq]
  by_cases h : 1 ≤ a ∧ a ≤ 2147483646
  · rw [if_pos h, if_pos h, wrap_in (by omega) (by omega), Int.tmod_eq_emod_of_nonneg (by omega)]
  · rw [if_neg h, if_neg h]

theorem FnNarrowing : Claim := by
  intro l ⟨hl, hw⟩
  refine Ev.rounds (r := true) ?_
  unfold laws_FnNarrowing.f
  refine ev_bindc (laws_big.val l) (ev_both (fun _ => Ev.now _) (fun h => ?_))
  have h' : l.length ≤ 1048576 := by simp at h; omega
  have r0 := atV_range l 0 hw
  have r1 := atV_range l 1 hw
  have r2 := atV_range l 2 hw
  have e2 := laws_at.val l 2 h' (by omega) hw
  refine ev_bindc (laws_at.val l 0 h' (by omega) hw) (ev_bindc (laws_at.val l 1 h' (by omega) hw) (ev_bindc (spec_PublicKey.val 12) ?_))
  generalize atV l 0 = x0 at r0
  generalize atV l 1 = x1 at r1
  generalize atV l 2 = x2 at r2 e2
  rw [wrap_in (x := 1 + Int.tmod x1 7) (by rw [Int.tmod_eq_emod_of_nonneg (by omega)]; omega) (by rw [Int.tmod_eq_emod_of_nonneg (by omega)]; omega), Int.tmod_eq_emod_of_nonneg (a := x0) (by omega), Int.tmod_eq_emod_of_nonneg (a := x1) (by omega)]
  have hs : 1 ≤ 1 + x1 % 7 ∧ 1 + x1 % 7 ≤ 7 := by omega
  have hd : 0 ≤ x0 % 6 ∧ x0 % 6 ≤ 5 := by omega
  have hm : 0 ≤ x2 % 8 ∧ x2 % 8 ≤ 7 := by omega
  have em : Int.tmod x2 8 = x2 % 8 := Int.tmod_eq_emod_of_nonneg (by omega)
  generalize 1 + x1 % 7 = s at hs
  generalize x0 % 6 = d at hd
  generalize x2 % 8 = m at hm em
  obtain ⟨a, ha⟩ : ∃ a : Nat, s = (a : Int) := ⟨s.toNat, by omega⟩
  obtain ⟨b, hb⟩ : ∃ b : Nat, m = (b : Int) := ⟨m.toNat, by omega⟩
  subst ha hb
  have hq := and8 a b (by omega) (by omega)
  have q8 := and_lt8 a b (by omega)
  have k12 : privateKeyV (publicKeyV 12) ≠ 0 := by rw [private_public 12 (by omega)]; omega
  have k13 : privateKeyV (publicKeyV 13) ≠ 0 := by rw [private_public 13 (by omega)]; omega
  have n1 : publicKeyV 11 ≠ publicKeyV 12 := by unfold publicKeyV; omega
  have n2 : publicKeyV 12 ≠ publicKeyV 13 := by unfold publicKeyV; omega
  have n3 : publicKeyV 14 ≠ publicKeyV 12 := by unfold publicKeyV; omega
  have g1 := grant_made 11 (publicKeyV 12) a 50 d (by omega) k12 n1 hs (by omega) hd
  have mk := makeGrant_yes 11 (publicKeyV 12) a 50 d (by omega) k12 n1 hs (by omega) hd
  generalize hS : signV 11 [263, publicKeyV 11, publicKeyV 12, (a : Int), 50, d] = S at g1 mk
  refine Ev.bind (ev_eq (impl_MakeGrant.ev 11 (publicKeyV 12) a 50 d) mk) (ev_bindc (spec_PublicKey.val 13) ?_)
  refine ev_bindc e2 ?_
  have nw : ∀ r, makeGrantV 12 (publicKeyV 13) ((a &&& b : Nat) : Int) 50 (d - 1) = r → narrowV (publicKeyV 11) (publicKeyV 12) a 50 d S 12 (publicKeyV 13) b = r := by
    intro r hr
    unfold narrowV
    rw [if_pos g1, if_pos rfl, hq, wrap_in (x := d - 1) (by omega) (by omega), hr]
  have ns : narrowV (publicKeyV 11) (publicKeyV 12) a 50 d S 14 (publicKeyV 13) 7 = (0, 0, 0, 0, 0, 0, false) := by
    unfold narrowV
    rw [if_pos g1, if_neg n3]
  rw [em]
  by_cases hgood : 0 < d ∧ (a &&& b) ≠ 0
  · have mk2 := makeGrant_yes 12 (publicKeyV 13) ((a &&& b : Nat) : Int) 50 (d - 1) (by omega) k13 n2 (by omega) (by omega) (by omega)
    have g2 := grant_made 12 (publicKeyV 13) ((a &&& b : Nat) : Int) 50 (d - 1) (by omega) k13 n2 (by omega) (by omega) (by omega)
    generalize hS2 : signV 12 [263, publicKeyV 12, publicKeyV 13, ((a &&& b : Nat) : Int), 50, d - 1] = S2 at g2 mk2
    refine Ev.bind (ev_eq (impl_NarrowGrant.ev _ _ _ _ _ _ _ _ _) (nw _ mk2)) (ev_bindc (spec_PublicKey.val 13) (Ev.bind (ev_eq (impl_NarrowGrant.ev _ _ _ _ _ _ _ _ _) ns) ?_))
    refine ev_pos rfl (ev_pos hgood.1 (ev_bindc e2 ?_))
    rw [em, hq]
    have t : (((a &&& b : Nat) : Int) != 0) = true := by simp; omega
    rw [t]
    refine ev_neg (by simp) ?_
    refine Ev.step (fun k => by rw [laws_FnNarrowing.j0]) ?_
    refine ev_neg (by simp) (ev_pos rfl (ev_bindc (spec_PublicKey.val 11) (ev_bindc (spec_PublicKey.val 13) ?_)))
    generalize hL : ([(⟨publicKeyV 11, publicKeyV 12, (a : Int), 50, d, S⟩ : S26), (⟨publicKeyV 12, publicKeyV 13, ((a &&& b : Nat) : Int), 50, d - 1, S2⟩ : S26)] : List S26) = L
    have hlen : L.length = 2 := by rw [← hL]; rfl
    have l0 : rd_T26 L ((0 : Nat) : Int) = ⟨publicKeyV 11, publicKeyV 12, (a : Int), 50, d, S⟩ := by rw [← hL]; rfl
    have l1 : rd_T26 L ((1 : Nat) : Int) = ⟨publicKeyV 12, publicKeyV 13, ((a &&& b : Nat) : Int), 50, d - 1, S2⟩ := by rw [← hL]; rfl
    have c1 : chainV L (publicKeyV 11) (publicKeyV 13) 50 = ((a &&& b : Nat) : Int) := by
      rw [chainV_yes]
      · rw [hlen, chainAcc, chainAcc, chainAcc, l0, l1]
        have e7 := and8 7 a (by omega) (by omega)
        have e8 := and8 a (a &&& b) (by omega) q8
        have e9 : 7 &&& a = a := (by decide +kernel : ∀ x : Fin 8, 7 &&& x.val = x.val) ⟨a, by omega⟩
        rw [e9] at e7
        rw [show (Go.bits .and .i64 7 (a : Int)) = (a : Int) from e7, e8, ← Nat.and_assoc, Nat.and_self]
      · refine ⟨by omega, ?_, ?_, ?_⟩
        · have := l0; rw [show ((0 : Nat) : Int) = 0 from rfl] at this; rw [this]
        · rw [hlen, show (((2 : Nat) : Int) - 1) = ((1 : Nat) : Int) from rfl, l1]
        · intro i hi
          rw [hlen] at hi
          have : i = 0 ∨ i = 1 := by omega
          rcases this with e | e
          · subst e
            unfold linkOk
            rw [l0]
            exact ⟨g1, by show ¬ (50 : Int) < 50; omega, fun h => absurd h (by omega)⟩
          · subst e
            unfold linkOk
            rw [show (((1 : Nat) : Int) - 1) = ((0 : Nat) : Int) from rfl, l1, l0]
            exact ⟨g2, by show ¬ (50 : Int) < 50; omega, fun _ => ⟨rfl, by show ¬ (d - 1 ≥ d); omega⟩⟩
    have c2 : chainV L (publicKeyV 11) (publicKeyV 13) 51 = 0 := chain_past 51 0 (by omega) (by rw [l0]; show (50 : Int) < 51; omega)
    refine Ev.bind (ev_eq (impl_ChainScopes.ev L _ _ _ (by omega)) c1) (ev_bindc e2 ?_)
    rw [em, hq]
    refine ev_pos rfl (ev_bindc (spec_PublicKey.val 11) (ev_bindc (spec_PublicKey.val 13) ?_))
    refine Ev.bind (ev_eq (impl_ChainScopes.ev L _ _ _ (by omega)) c2) (ev_pos rfl ?_)
    rw [wrap_in (x := d - 1) (by omega) (by omega)]
    refine ev_both (fun h7 => ?_) (fun h7 => ?_)
    · exact ev_pos rfl (ev_bindc rfl (ev_bindc rfl (Ev.bind (laws_sameInts.ev _ (by simp)) (Ev.now _))))
    · have bad : isGrantV (publicKeyV 12) (publicKeyV 13) 7 50 (d - 1) S2 = false := by
        cases hg : isGrantV (publicKeyV 12) (publicKeyV 13) 7 50 (d - 1) S2
        · rfl
        · have v := (isGrant_verify hg).2.2
          unfold verifyV at v
          rw [private_public 12 (by omega), if_neg (by omega), beq_iff_eq, ← hS2] at v
          have := sign_ne6 12 _ _ _ _ _ _ (by omega) (by omega) (by omega) (by omega) (by omega) v
          exact absurd this.symm h7
      refine Ev.bind (ev_eq (impl_IsGrant.ev _ _ _ _ _ _) bad) (ev_neg (by simp) ?_)
      exact ev_pos rfl (ev_bindc rfl (ev_bindc rfl (Ev.bind (laws_sameInts.ev _ (by simp)) (Ev.now _))))
  · have mk2 := makeGrant_no 12 (publicKeyV 13) ((a &&& b : Nat) : Int) 50 (d - 1) (by omega)
    refine Ev.bind (ev_eq (impl_NarrowGrant.ev _ _ _ _ _ _ _ _ _) (nw _ mk2)) (ev_bindc (spec_PublicKey.val 13) (Ev.bind (ev_eq (impl_NarrowGrant.ev _ _ _ _ _ _ _ _ _) ns) ?_))
    refine ev_pos rfl (ev_both (fun hd0 => ?_) (fun hd0 => ?_))
    · have z : (a &&& b) = 0 := by omega
      refine ev_bindc e2 ?_
      rw [em, hq, z]
      refine ev_neg (by simp) ?_
      refine Ev.step (fun k => by rw [laws_FnNarrowing.j0]) ?_
      exact ev_neg (by simp) (ev_neg (by simp) (Ev.now _))
    · refine ev_neg (by simp) ?_
      refine Ev.step (fun k => by rw [laws_FnNarrowing.j0]) ?_
      exact ev_neg (by simp) (ev_neg (by simp) (Ev.now _))

end Go.Proofs.Ytanoaneoanpkkaa.Pure
