/- The law FnSplitViews answers true, for all arguments that the row lets in; no condition besides. Here: the plain side, over the printed functions. -/
import Derived.Test.YtfaecdhobmalfaaZFnSplitViewsx5
import Derived.Test.YtfaecdhobmalfaaKitV
namespace Go.Proofs.Ytfaecdhobmalfaa.Pure
open Go.RowKit Go.Proofs.Ytfaecdhobmalfaa.ZFnSplitViews Go.Proofs.YtfaecdhobmalfaaW.PrintWords Go.Proofs.YtfaecdhobmalfaaW.PrintLast Go.Proofs.YtfaecdhobmalfaaW.PrintMore Go.Proofs.Ytfaecdhobmalfaa.Kit
set_option linter.unusedVariables false
set_option linter.unusedSimpArgs false

/-- What is to be proved of the printed functions. -/
def Claim : Prop := ∀ (l0 : List Int), (l0.length ≤ maxLen ∧ ∀ y_ ∈ l0, (Lit.int .u8 y_).wf = true) → ∃ k, laws_FnSplitViews.f k l0 = some true

theorem laws_big.val (l : List Int) : laws_big.f l = some (decide ((l.length : Int) > 1048576)) := rfl

def atV (l : List Int) (i : Nat) : Int := if i < l.length then l.getD i 0 else Int.tmod ((i : Int) * 31 + l.length * 7) 256
theorem atV_range (l : List Int) (i : Nat) (hw : ∀ y ∈ l, (Lit.int .u8 y).wf = true) : 0 ≤ atV l i ∧ atV l i ≤ 255 := by
  unfold atV
  split
  · rename_i h
    rw [getD_nat h]
    have := hw l[i] (List.getElem_mem h)
    simp [Lit.wf] at this
    have a : IntKind.u8.min = 0 := rfl
    have b : IntKind.u8.max = 255 := rfl
    omega
  · rw [Int.tmod_eq_emod_of_nonneg (by omega)]
    omega
theorem laws_at.val (l : List Int) (i : Nat) (hl : l.length ≤ 1048576) (hi : i < 1000000) (hw : ∀ y ∈ l, (Lit.int .u8 y).wf = true) : laws_at.f l (i : Int) = some (atV l i) := by
  have r := atV_range l i hw
  unfold laws_at.f
  unfold atV at r ⊢
  by_cases h : i < l.length
  · rw [if_pos (by omega), if_pos (by omega), rd_get h, if_pos h, getD_nat h]
    rw [if_pos h, getD_nat h] at r
    rw [wrap_in (by omega) (by omega)]
  · rw [if_neg (by omega), if_neg h, wrap_in (x := (i : Int) * 31) (by omega) (by omega), wrap_in (x := (l.length : Int) * 7) (by omega) (by omega), wrap_in (by omega) (by omega)]

def modV (p q : Int) : Int := if 1 ≤ q ∧ q ≤ 1000000000000 then p % q else 0
theorem modV_range {p q : Int} (h : 1 ≤ q) : 0 ≤ modV p q ∧ modV p q < q := by
  unfold modV
  split
  · exact ⟨Int.emod_nonneg _ (by omega), Int.emod_lt_of_pos _ (by omega)⟩
  · omega
theorem tmod_range (p : Int) {q : Int} (h : 1 ≤ q) : -q < Int.tmod p q ∧ Int.tmod p q < q := by
  have h1 := Int.tmod_lt_of_pos p (show 0 < q by omega)
  have h2 := Int.lt_tmod_of_pos p (show 0 < q by omega)
  exact ⟨h2, h1⟩
theorem tmod_add (p : Int) {q : Int} (h : 1 ≤ q) : (Int.tmod p q + q) % q = p % q := by
  have e := Int.tmod_def p q
  have : Int.tmod p q + q = p + q * (1 - p.tdiv q) := by rw [e, Int.mul_sub]; omega
  rw [this, Int.add_mul_emod_self_left]

def hashStep (h v : Int) : Int := Int.tmod (wrap64 ((wrap64 ((wrap64 (h * 1000003)) + modV v 2147483647)) + 13)) 2147483647
def hashV (l : List Int) : Int := l.foldl hashStep 11

def rootV (l : List Int) : Int := l.foldl (fun h r => hashV [269, h, r]) 0

def publicKeyV (a : Int) : Int := if 1 ≤ a ∧ a ≤ 2147483646 then a * 48271 % 2147483647 else 0
theorem publicKeyV_range (a : Int) : 0 ≤ publicKeyV a ∧ publicKeyV a ≤ 2147483646 := by
  unfold publicKeyV
  split <;> omega

def keyedHashV (key : Int) (l : List Int) : Int := hashV ((key :: l) ++ [key])

def signV (p : Int) (m : List Int) : Int := if 1 ≤ p ∧ p ≤ 2147483646 then keyedHashV p ([139, (m.length : Int)] ++ m) else 0

def signHeadV (p s r : Int) (l : List Int) : Int × Int × Int × Int × Int × Int × Int × Bool :=
  if (1 ≤ p ∧ p ≤ 2147483646) ∧ ¬ (l.length : Int) < s ∧ rootV (l.take s.toNat) = r then (p, (l.length : Int), rootV l, (l.length : Int), rootV l, publicKeyV p, signV p [271, (l.length : Int), rootV l], true) else (p, s, r, 0, 0, 0, 0, false)

theorem impl_Mod.ev (p q : Int) : Ev (fun k => impl_Mod.f k p q) (modV p q) := by
  unfold impl_Mod.f modV
  by_cases h1 : q < 1
  · refine ev_pos h1 (Ev.step (fun k => by rw [impl_Mod.j0]) (ev_pos rfl ?_))
    rw [if_neg (show ¬ (1 ≤ q ∧ q ≤ 1000000000000) by omega)]
    exact Ev.now _
  · refine ev_neg h1 (Ev.step (fun k => by rw [impl_Mod.j0]) ?_)
    by_cases h2 : q > 1000000000000
    · refine ev_pos (by simpa using h2) ?_
      rw [if_neg (show ¬ (1 ≤ q ∧ q ≤ 1000000000000) by omega)]
      exact Ev.now _
    · refine ev_neg (by simpa using h2) (ev_neg (by omega) ?_)
      rw [if_pos (show 1 ≤ q ∧ q ≤ 1000000000000 by omega)]
      have r1 := tmod_range p (show 1 ≤ q by omega)
      have r2 := tmod_add p (show 1 ≤ q by omega)
      by_cases h3 : Int.tmod p q < 0
      · refine ev_pos h3 (ev_const ?_)
        rw [wrap_in (by omega) (by omega), ← r2, Int.emod_eq_of_lt (by omega) (by omega)]
      · refine ev_neg h3 (ev_const ?_)
        rw [← r2, Int.add_emod_right, Int.emod_eq_of_lt (by omega) (by omega)]

theorem impl_Hash.ev (l : List Int) (hl : l.length < 4611686018427387904) : Ev (fun k => impl_Hash.f k l) (hashV l) := by
  unfold impl_Hash.f
  refine scan0 (xs := l) (fun k h i => impl_Hash.l0 k h l l.length i) (fun ys h => ys.foldl hashStep h) (fun s => ?_) (fun i h s ih => ?_) 11
  · refine Ev.step (fun k => by rw [impl_Hash.l0]) ?_
    exact ev_neg (by omega) (Ev.now _)
  · refine Ev.step (fun k => by rw [impl_Hash.l0]) ?_
    refine ev_pos (by omega) (ev_pos (by omega) (ev_pos (by omega) ?_))
    rw [rd_get h, wrap_succ (by omega)]
    exact Ev.bind (impl_Mod.ev _ _) (ih _)

theorem impl_RootOf.ev (l : List Int) (n : Int) (hl : l.length < 4611686018427387904) : Ev (fun k => impl_RootOf.f k l n) (rootV (l.take n.toNat)) := by
  unfold impl_RootOf.f
  have key : ∀ (d i : Nat), i + d = (l.take n.toNat).length → ∀ h, Ev (fun k => impl_RootOf.l0 k l n h (i : Int)) (((l.take n.toNat).drop i).foldl (fun h r => hashV [269, h, r]) h) := by
    intro d
    induction d with
    | zero =>
      intro i hi h
      have e : i = (l.take n.toNat).length := by omega
      rw [List.drop_of_length_le (by omega)]
      rw [List.length_take] at e
      refine Ev.step (fun k => by rw [impl_RootOf.l0]) ?_
      refine ev_neg ?_ (Ev.now _)
      unfold mn; split <;> omega
    | succ d ih =>
      intro i hi h
      have hi2 := hi
      rw [List.length_take] at hi2
      have hx : i < (l.take n.toNat).length := by omega
      rw [List.drop_eq_getElem_cons hx]
      refine Ev.step (fun k => by rw [impl_RootOf.l0]) ?_
      refine ev_pos (by unfold mn; split <;> omega) (ev_pos (by omega) (ev_pos (by omega) ?_))
      rw [rd_get (by omega), wrap_succ (by omega)]
      refine Ev.bind (impl_Hash.ev _ (by simp)) ?_
      have := ih (i + 1) (by omega) (hashV [269, h, l[i]])
      simpa using this
  have := key (l.take n.toNat).length 0 (by omega) 0
  simpa [rootV] using this

theorem impl_InRange.val (a b c : Int) : impl_InRange.f a b c = some (decide (b ≤ a ∧ a ≤ c)) := by
  unfold impl_InRange.f
  by_cases h : b ≤ a
  · rw [if_pos h]; simp [h]
  · rw [if_neg h]; simp [h]

theorem impl_IsValidKey.val (a : Int) : impl_IsValidKey.f a = some (decide (1 ≤ a ∧ a ≤ 2147483646)) := by
  unfold impl_IsValidKey.f
  rw [impl_InRange.val]
  rfl

theorem impl_PublicKey.val (a : Int) : impl_PublicKey.f a = some (publicKeyV a) := by
  unfold impl_PublicKey.f publicKeyV
  rw [impl_IsValidKey.val]
  simp only [Option.bind_some, decide_eq_true_eq]
  by_cases h : 1 ≤ a ∧ a ≤ 2147483646
  · rw [if_pos h, if_pos h, wrap_in (by omega) (by omega), Int.tmod_eq_emod_of_nonneg (by omega)]
  · rw [if_neg h, if_neg h]

theorem impl_joined.ev (l : List Int) (ls : List (List Int)) (hls : ls.length < 4611686018427387904) (hl : l.length + (ls.flatten).length < 17592186044416) : Ev (fun k => impl_joined.f k l ls) (l ++ ls.flatten) := by
  unfold impl_joined.f
  simp only [Option.bind_some, List.nil_append, List.length_nil]
  refine ev_pos (by omega) ?_
  have key : ∀ (d i : Nat), i + d = ls.length → ∀ s : List Int, s.length + ((ls.drop i).flatten).length < 17592186044416 → Ev (fun k => impl_joined.l0 k s ls ls.length (i : Int)) (s ++ (ls.drop i).flatten) := by
    intro d
    induction d with
    | zero =>
      intro i hi s hs
      rw [List.drop_of_length_le (by omega)]
      refine Ev.step (fun k => by rw [impl_joined.l0]) ?_
      refine ev_neg (by omega) ?_
      simpa using Ev.now s
    | succ d ih =>
      intro i hi s hs
      have h : i < ls.length := by omega
      rw [List.drop_eq_getElem_cons h] at hs ⊢
      simp only [List.flatten_cons, List.length_append] at hs ⊢
      refine Ev.step (fun k => by rw [impl_joined.l0]) ?_
      refine ev_pos (by omega) (ev_pos (by omega) (ev_pos (by omega) ?_))
      simp only [rd_L2, getD_get h, wrap_succ (show i < 4611686018427387904 by omega)]
      refine ev_pos (by omega) ?_
      have := ih (i + 1) (by omega) (s ++ ls[i]) (by rw [List.length_append]; omega)
      rwa [List.append_assoc] at this
  exact key ls.length 0 (by omega) l hl

theorem impl_KeyedHash.ev (key : Int) (l : List Int) (hl : l.length < 17592186044400) : Ev (fun k => impl_KeyedHash.f k key l) (keyedHashV key l) := by
  unfold impl_KeyedHash.f keyedHashV
  refine Ev.bind (impl_joined.ev _ _ (by simp) (by simp; omega)) ?_
  simp only [List.flatten_cons, List.flatten_nil, List.append_nil]
  exact Ev.bind (impl_Hash.ev _ (by simp; omega)) (Ev.now _)

theorem impl_SignMessage.ev (p : Int) (m : List Int) (hm : m.length < 17592186044000) : Ev (fun k => impl_SignMessage.f k p m) (signV p m) := by
  unfold impl_SignMessage.f signV
  rw [impl_IsValidKey.val]
  simp only [Option.bind_some, decide_eq_true_eq]
  refine ev_ite (fun _ => ?_) (fun _ => Ev.now _)
  refine Ev.bind (impl_joined.ev _ _ (by simp) (by simp; omega)) ?_
  simp only [List.flatten_cons, List.flatten_nil, List.append_nil]
  exact Ev.bind (impl_KeyedHash.ev _ _ (by simp; omega)) (Ev.now _)

theorem impl_SignHead.ev (p s r : Int) (l : List Int) (hl : l.length < 4611686018427387904) : Ev (fun k => impl_SignHead.f k p s r l) (signHeadV p s r l) := by
  have no : ∀ (h : ¬ ((1 ≤ p ∧ p ≤ 2147483646) ∧ ¬ (l.length : Int) < s ∧ rootV (l.take s.toNat) = r)), Ev (fun k => impl_SignHead.j0 k true p s r l) (signHeadV p s r l) := by
    intro h
    unfold signHeadV
    rw [if_neg h]
    refine Ev.step (fun k => by rw [impl_SignHead.j0]) ?_
    exact ev_pos rfl (Ev.now _)
  unfold impl_SignHead.f
  refine ev_bindc (impl_IsValidKey.val p) ?_
  by_cases h1 : 1 ≤ p ∧ p ≤ 2147483646
  · refine ev_pos (by simpa using h1) ?_
    by_cases h2 : (l.length : Int) < s
    · exact ev_pos h2 (no (fun h => h.2.1 h2))
    · refine ev_neg h2 (Ev.bind (impl_RootOf.ev l s hl) ?_)
      by_cases h3 : rootV (l.take s.toNat) = r
      · rw [h3, bne_self_eq_false]
        unfold signHeadV
        rw [if_pos ⟨h1, h2, h3⟩]
        refine Ev.step (fun k => by rw [impl_SignHead.j0]) ?_
        refine ev_neg (by simp) ?_
        have e := impl_RootOf.ev l (l.length : Int) hl
        rw [Int.toNat_natCast, List.take_length] at e
        refine Ev.bind e (ev_bindc (impl_PublicKey.val p) (Ev.bind (impl_SignMessage.ev _ _ (by simp)) (Ev.now _)))
      · rw [bne_iff_ne.2 h3]
        exact no (fun h => h3 h.2.2)
  · exact ev_neg (by simpa using h1) (no (fun h => h1 h.1))

def privateKeyV (a : Int) : Int := if 1 ≤ a ∧ a ≤ 2147483646 then a * 1899818559 % 2147483647 else 0
theorem privateKeyV_range (a : Int) : 0 ≤ privateKeyV a ∧ privateKeyV a ≤ 2147483646 := by
  unfold privateKeyV
  split <;> omega
theorem private_ne (a : Int) : privateKeyV a = 0 ↔ ¬ (1 ≤ a ∧ a ≤ 2147483646) := by
  unfold privateKeyV
  split <;> omega
theorem public_private (a : Int) (h : 1 ≤ a ∧ a ≤ 2147483646) : publicKeyV (privateKeyV a) = a := by
  have h1 : privateKeyV a = a * 1899818559 % 2147483647 := if_pos h
  have h2 : 1 ≤ privateKeyV a ∧ privateKeyV a ≤ 2147483646 := by omega
  unfold publicKeyV
  rw [if_pos h2, h1]
  omega
theorem private_public (a : Int) (h : 1 ≤ a ∧ a ≤ 2147483646) : privateKeyV (publicKeyV a) = a := by
  have h1 : publicKeyV a = a * 48271 % 2147483647 := if_pos h
  have h2 : 1 ≤ publicKeyV a ∧ publicKeyV a ≤ 2147483646 := by omega
  unfold privateKeyV
  rw [if_pos h2, h1]
  omega

def verifyV (p : Int) (m : List Int) (s : Int) : Bool := if privateKeyV p = 0 then false else signV (privateKeyV p) m == s

def checkHeadV (s r w g : Int) : Bool := verifyV w [271, s, r] g && decide (0 ≤ s ∧ s ≤ 60)

def isSplitV (a b c d e f g h : Int) : Bool := if checkHeadV a b c d = true then (if checkHeadV e f g h = true then (if c = g then (if a = e then b != f else false) else false) else false) else false

theorem impl_power.evM : Ev (fun k => impl_power.f k 48271 2147483645 2147483647) 1899818559 :=
  Ev.of (k := 40) (fun k => impl_power.mono _ _ _ k) (by decide +kernel)

theorem impl_PrivateKey.ev (a : Int) : Ev (fun k => impl_PrivateKey.f k a) (privateKeyV a) := by
  unfold impl_PrivateKey.f
  rw [impl_IsValidKey.val]
  simp only [Option.bind_some, decide_eq_true_eq]
  by_cases h : 1 ≤ a ∧ a ≤ 2147483646
  · have e : privateKeyV a = a * 1899818559 % 2147483647 := if_pos h
    refine ev_pos h (Ev.bind impl_power.evM ?_)
    rw [wrap_in (by omega) (by omega), Int.tmod_eq_emod_of_nonneg (by omega), ← e]
    exact Ev.now _
  · refine ev_neg h ?_
    rw [(private_ne a).2 h]
    exact Ev.now _

theorem impl_VerifySignature.ev (p : Int) (m : List Int) (s : Int) (hm : m.length < 17592186044000) : Ev (fun k => impl_VerifySignature.f k p m s) (verifyV p m s) := by
  unfold impl_VerifySignature.f verifyV
  exact Ev.bind (impl_PrivateKey.ev p) (ev_ite (fun _ => Ev.now _) (fun _ => Ev.bind (impl_SignMessage.ev _ m hm) (Ev.now _)))

theorem impl_CheckHead.ev (s r w g : Int) : Ev (fun k => impl_CheckHead.f k s r w g) (checkHeadV s r w g) := by
  unfold impl_CheckHead.f checkHeadV
  refine Ev.bind (impl_VerifySignature.ev _ _ _ (by simp)) ?_
  cases h : verifyV w [271, s, r] g
  · exact ev_neg (by simp) (Ev.now _)
  · refine ev_pos rfl (ev_const ?_)
    rw [impl_InRange.val]
    simp

theorem impl_IsSplit.ev (a b c d e f g h : Int) : Ev (fun k => impl_IsSplit.f k a b c d e f g h) (isSplitV a b c d e f g h) := by
  unfold impl_IsSplit.f isSplitV
  refine Ev.bind (impl_CheckHead.ev a b c d) (ev_ite (fun _ => ?_) (fun _ => Ev.now _))
  refine Ev.bind (impl_CheckHead.ev e f g h) (ev_ite (fun _ => ?_) (fun _ => Ev.now _))
  exact ev_ite (fun _ => ev_ite (fun _ => Ev.now _) (fun _ => Ev.now _)) (fun _ => Ev.now _)

def coversV (s r w g : Int) (l : List Int) : Bool := if checkHeadV s r w g = true then (if (l.length : Int) ≥ s then rootV (l.take s.toNat) == r else false) else false

def areV (a b c d e f g h : Int) (l : List Int) : Bool := if coversV a b c d l = true then coversV e f g h l else false

theorem impl_AreConsistent.ev (a b c d e f g h : Int) (l : List Int) (hl : l.length < 4611686018427387904) : Ev (fun k => impl_AreConsistent.f k a b c d e f g h l) (areV a b c d e f g h l) := by
  unfold impl_AreConsistent.f areV coversV
  refine Ev.bind (impl_CheckHead.ev a b c d) ?_
  cases h1 : checkHeadV a b c d
  · simpa using Ev.now false
  · refine ev_pos rfl (Ev.bind (impl_CheckHead.ev e f g h) ?_)
    cases h2 : checkHeadV e f g h
    · simpa using Ev.now false
    · refine ev_pos rfl (ev_both (fun h3 => ?_) (fun h3 => ?_))
      · have h4 : (l.length : Int) ≥ a ∧ (l.length : Int) ≥ e := by unfold mx at h3; split at h3 <;> omega
        refine Ev.bind (impl_RootOf.ev l a hl) ?_
        by_cases h5 : rootV (l.take a.toNat) = b
        · refine ev_pos h5 (Ev.bind (impl_RootOf.ev l e hl) ?_)
          simpa [h4, h5] using Ev.now _
        · refine ev_neg h5 ?_
          simpa [h4, h5] using Ev.now false
      · have h4 : ¬ (l.length : Int) ≥ a ∨ ¬ (l.length : Int) ≥ e := by unfold mx at h3; split at h3 <;> omega
        rcases h4 with h4 | h4
        · simpa [h4] using Ev.now false
        · simpa [h4] using Ev.now false

theorem hashStep_range (h v : Int) (h0 : 0 ≤ h) (h1 : h ≤ 2147483646) : 0 ≤ hashStep h v ∧ hashStep h v ≤ 2147483646 := by
  unfold hashStep
  have r := modV_range (p := v) (show (1 : Int) ≤ 2147483647 by omega)
  rw [wrap_in (x := h * 1000003) (by omega) (by omega), wrap_in (x := h * 1000003 + modV v 2147483647) (by omega) (by omega), wrap_in (by omega) (by omega), Int.tmod_eq_emod_of_nonneg (by omega)]
  omega
theorem hash_range (l : List Int) : 0 ≤ hashV l ∧ hashV l ≤ 2147483646 := by
  unfold hashV
  have key : ∀ (l : List Int) (h : Int), 0 ≤ h → h ≤ 2147483646 → 0 ≤ l.foldl hashStep h ∧ l.foldl hashStep h ≤ 2147483646 := by
    intro l
    induction l with
    | nil => intro h h0 h1; exact ⟨h0, h1⟩
    | cons v l ih => intro h h0 h1; have := hashStep_range h v h0 h1; exact ih _ this.1 this.2
  exact key l 11 (by omega) (by omega)

theorem hashStep_eq (h v : Int) (h0 : 0 ≤ h) (h1 : h ≤ 2147483646) (v0 : 0 ≤ v) (v1 : v ≤ 2147483646) : hashStep h v = (h * 1000003 + v + 13) % 2147483647 := by
  unfold hashStep
  have e : modV v 2147483647 = v := by
    unfold modV
    rw [if_pos (by omega)]
    omega
  rw [e, wrap_in (x := h * 1000003) (by omega) (by omega), wrap_in (x := h * 1000003 + v) (by omega) (by omega), wrap_in (by omega) (by omega), Int.tmod_eq_emod_of_nonneg (by omega)]
theorem cancel (x : Int) (h0 : -2147483647 < x) (h1 : x < 2147483647) (e : x * 1000003 % 2147483647 = 0) : x = 0 := by
  have d : (2147483647 : Int) ∣ x * 1000003 := Int.dvd_of_emod_eq_zero e
  have d1 : (2147483647 : Nat) ∣ x.natAbs * 1000003 := by
    have := Int.natAbs_dvd_natAbs.2 d
    rwa [Int.natAbs_mul] at this
  have d2 : (2147483647 : Int) ∣ x := Int.natAbs_dvd_natAbs.1 (Nat.Coprime.dvd_of_dvd_mul_right (by decide +kernel) d1)
  obtain ⟨y, hy⟩ := d2
  clear e d d1
  omega
theorem apart_lin (h h' v : Int) : h * 1000003 + v + 13 - (h' * 1000003 + v + 13) = (h - h') * 1000003 := by omega
/-- One step keeps what is apart apart: in the state, and in the value. -/
theorem hashStep_left (h h' v : Int) (h0 : 0 ≤ h) (h1 : h ≤ 2147483646) (g0 : 0 ≤ h') (g1 : h' ≤ 2147483646) (v0 : 0 ≤ v) (v1 : v ≤ 2147483646) (e : hashStep h v = hashStep h' v) : h = h' := by
  rw [hashStep_eq h v h0 h1 v0 v1, hashStep_eq h' v g0 g1 v0 v1] at e
  have e2 := Int.emod_eq_emod_iff_emod_sub_eq_zero.1 e
  rw [apart_lin] at e2
  clear e
  have := cancel (h - h') (by clear e2; omega) (by clear e2; omega) e2
  clear e2
  omega
theorem hashStep_right (h v v' : Int) (h0 : 0 ≤ h) (h1 : h ≤ 2147483646) (v0 : 0 ≤ v) (v1 : v ≤ 2147483646) (w0 : 0 ≤ v') (w1 : v' ≤ 2147483646) (e : hashStep h v = hashStep h v') : v = v' := by
  rw [hashStep_eq h v h0 h1 v0 v1, hashStep_eq h v' h0 h1 w0 w1] at e
  omega
theorem foldl_range (l : List Int) (h : Int) (h0 : 0 ≤ h) (h1 : h ≤ 2147483646) : 0 ≤ l.foldl hashStep h ∧ l.foldl hashStep h ≤ 2147483646 := by
  induction l generalizing h with
  | nil => exact ⟨h0, h1⟩
  | cons v l ih => have := hashStep_range h v h0 h1; exact ih _ this.1 this.2
theorem foldl_left (l : List Int) (hl : ∀ v ∈ l, 0 ≤ v ∧ v ≤ 2147483646) (h h' : Int) (h0 : 0 ≤ h) (h1 : h ≤ 2147483646) (g0 : 0 ≤ h') (g1 : h' ≤ 2147483646) (e : l.foldl hashStep h = l.foldl hashStep h') : h = h' := by
  induction l generalizing h h' with
  | nil => exact e
  | cons v l ih =>
    have r := hashStep_range h v h0 h1
    have r' := hashStep_range h' v g0 g1
    have hv := hl v (by simp)
    exact hashStep_left h h' v h0 h1 g0 g1 hv.1 hv.2 (ih (fun x hx => hl x (by simp [hx])) _ _ r.1 r.2 r'.1 r'.2 e)
/-- Two lists of numbers in range that differ in one place differ in their hashes. -/
theorem hash_ne (a b : List Int) (x y : Int) (hb : ∀ v ∈ b, 0 ≤ v ∧ v ≤ 2147483646) (hx : 0 ≤ x ∧ x ≤ 2147483646) (hy : 0 ≤ y ∧ y ≤ 2147483646) (e : hashV (a ++ x :: b) = hashV (a ++ y :: b)) : x = y := by
  unfold hashV at e
  simp only [List.foldl_append, List.foldl_cons] at e
  have r := foldl_range a 11 (by omega) (by omega)
  have rx := hashStep_range (a.foldl hashStep 11) x r.1 r.2
  have ry := hashStep_range (a.foldl hashStep 11) y r.1 r.2
  exact hashStep_right _ x y r.1 r.2 hx.1 hx.2 hy.1 hy.2 (foldl_left b hb _ _ rx.1 rx.2 ry.1 ry.2 e)

theorem sign_ne (p s r r' : Int) (hp : 1 ≤ p ∧ p ≤ 2147483646) (hr : 0 ≤ r ∧ r ≤ 2147483646) (hr' : 0 ≤ r' ∧ r' ≤ 2147483646) (e : signV p [271, s, r] = signV p [271, s, r']) : r = r' := by
  unfold signV at e
  rw [if_pos hp, if_pos hp] at e
  unfold keyedHashV at e
  exact hash_ne [p, 139, 3, 271, s] [p] r r' (by simp; omega) hr hr' e

theorem verify_sign (p : Int) (m : List Int) (h : 1 ≤ p ∧ p ≤ 2147483646) : verifyV (publicKeyV p) m (signV p m) = true := by
  unfold verifyV
  rw [private_public p h, if_neg (by omega)]
  simp

theorem root_range (l : List Int) : 0 ≤ rootV l ∧ rootV l ≤ 2147483646 := by
  unfold rootV
  have key : ∀ (l : List Int) (h : Int), 0 ≤ h → h ≤ 2147483646 → 0 ≤ l.foldl (fun h r => hashV [269, h, r]) h ∧ l.foldl (fun h r => hashV [269, h, r]) h ≤ 2147483646 := by
    intro l
    induction l with
    | nil => intro h h0 h1; exact ⟨h0, h1⟩
    | cons x l ih => intro h _ _; have := hash_range [269, h, x]; exact ih _ this.1 this.2
  exact key l 0 (by omega) (by omega)

theorem FnSplitViews : Claim := by
  intro l ⟨hl, hw⟩
  refine Ev.rounds (r := true) ?_
  unfold laws_FnSplitViews.f
  refine ev_bindc (laws_big.val l) (ev_both (fun _ => Ev.now _) (fun h => ?_))
  have h' : l.length ≤ 1048576 := by simp at h; omega
  have rx := atV_range l 0 hw
  have ry := atV_range l 1 hw
  refine ev_bindc (laws_at.val l 0 h' (by omega) hw) (ev_bindc rfl (ev_bindc (laws_at.val l 0 h' (by omega) hw) (ev_bindc rfl (ev_bindc (laws_at.val l 1 h' (by omega) hw) ?_))))
  generalize atV l 0 = x at rx
  generalize atV l 1 = y at ry
  rw [wrap_in (x := x + 1) (by omega) (by omega), wrap_in (x := 1 + y) (by omega) (by omega), wrap_in (x := 1 + y + 1) (by omega) (by omega)]
  have s1 : ∀ (p : Int) (m : List Int), 1 ≤ p ∧ p ≤ 2147483646 → signHeadV p 0 0 m = (p, (m.length : Int), rootV m, (m.length : Int), rootV m, publicKeyV p, signV p [271, (m.length : Int), rootV m], true) := by
    intro p m hp
    unfold signHeadV
    rw [if_pos ⟨hp, by omega, by simp [rootV]⟩]
  have rA := root_range [1, 2, x]
  have rB := root_range [1, 2, x + 1]
  have ne : rootV [1, 2, x] ≠ rootV [1, 2, x + 1] := by
    intro e
    have := hash_ne [269, rootV [1, 2]] [] x (x + 1) (by simp) (by omega) (by omega) e
    omega
  refine Ev.bind (impl_SignHead.ev _ _ _ _ (by simp)) (Ev.bind (impl_SignHead.ev _ _ _ _ (by simp)) (Ev.bind (impl_SignHead.ev _ _ _ _ (by simp)) ?_))
  rw [s1 (1 + y) [1, 2, x] (by omega), s1 (1 + y) [1, 2, x + 1] (by omega), s1 (1 + y + 1) [1, 2, x + 1] (by omega)]
  simp only [List.length_cons, List.length_nil, Nat.zero_add]
  have e3 : ((1 + 1 + 1 : Nat) : Int) = 3 := rfl
  rw [e3]
  have cA : checkHeadV 3 (rootV [1, 2, x]) (publicKeyV (1 + y)) (signV (1 + y) [271, 3, rootV [1, 2, x]]) = true := by
    unfold checkHeadV; rw [verify_sign _ _ (by omega)]; rfl
  have cB : checkHeadV 3 (rootV [1, 2, x + 1]) (publicKeyV (1 + y)) (signV (1 + y) [271, 3, rootV [1, 2, x + 1]]) = true := by
    unfold checkHeadV; rw [verify_sign _ _ (by omega)]; rfl
  have pk : publicKeyV (1 + y) ≠ publicKeyV (1 + y + 1) := by
    unfold publicKeyV
    rw [if_pos (by omega), if_pos (by omega)]
    omega
  have forged : checkHeadV 3 (rootV [1, 2, x + 1]) (publicKeyV (1 + y)) (signV (1 + y) [271, 3, rootV [1, 2, x]]) = false := by
    unfold checkHeadV verifyV
    rw [private_public (1 + y) (by omega), if_neg (by omega)]
    have : ¬ signV (1 + y) [271, 3, rootV [1, 2, x + 1]] = signV (1 + y) [271, 3, rootV [1, 2, x]] := fun e => ne (sign_ne (1 + y) 3 _ _ (by omega) rB rA e).symm
    simp [this]
  refine ev_pos trivial (ev_pos trivial (ev_pos trivial ?_))
  refine Ev.bind (impl_IsSplit.ev _ _ _ _ _ _ _ _) (ev_pos ?_ ?_)
  · unfold isSplitV
    rw [if_pos cA, if_pos cB, if_pos rfl, if_pos rfl]
    exact bne_iff_ne.2 ne
  refine Ev.bind (impl_IsSplit.ev _ _ _ _ _ _ _ _) (ev_neg ?_ ?_)
  · unfold isSplitV
    rw [if_pos cA, if_pos cA, if_pos rfl, if_pos rfl]
    simp
  refine Ev.bind (impl_IsSplit.ev _ _ _ _ _ _ _ _) (ev_neg ?_ ?_)
  · unfold isSplitV
    rw [if_neg pk]
    split
    · split <;> simp
    · simp
  refine Ev.bind (impl_CheckHead.ev _ _ _ _) (ev_neg (by rw [forged]; simp) ?_)
  refine Ev.bind (impl_AreConsistent.ev _ _ _ _ _ _ _ _ _ (by simp)) (ev_const ?_)
  have : areV 3 (rootV [1, 2, x]) (publicKeyV (1 + y)) (signV (1 + y) [271, 3, rootV [1, 2, x]]) 3 (rootV [1, 2, x + 1]) (publicKeyV (1 + y)) (signV (1 + y) [271, 3, rootV [1, 2, x + 1]]) [1, 2, x] = false := by
    unfold areV coversV
    rw [if_pos cB]
    have t : ([1, 2, x] : List Int).take (3 : Int).toNat = [1, 2, x] := rfl
    rw [t]
    have : (rootV [1, 2, x] == rootV [1, 2, x + 1]) = false := beq_eq_false_iff_ne.2 ne
    rw [this]
    simp
  rw [this]
  rfl

end Go.Proofs.Ytfaecdhobmalfaa.Pure
