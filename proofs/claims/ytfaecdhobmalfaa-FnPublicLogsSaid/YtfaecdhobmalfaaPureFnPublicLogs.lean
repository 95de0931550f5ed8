/- The law FnPublicLogs answers true, for all arguments that the row lets in; no condition besides. Here: the plain side, over the printed functions. -/
import Derived.Test.YtfaecdhobmalfaaZFnPublicLogsx8
import Derived.Test.YtfaecdhobmalfaaKitV
namespace Go.Proofs.Ytfaecdhobmalfaa.Pure
open Go.RowKit Go.Proofs.Ytfaecdhobmalfaa.ZFnPublicLogs Go.Proofs.YtfaecdhobmalfaaW.PrintWords Go.Proofs.YtfaecdhobmalfaaW.PrintLast Go.Proofs.YtfaecdhobmalfaaW.PrintMore Go.Proofs.Ytfaecdhobmalfaa.Kit
set_option linter.unusedVariables false
set_option linter.unusedSimpArgs false

/-- What is to be proved of the printed functions. -/
def Claim : Prop := ∀ (l0 : List Int), (l0.length ≤ maxLen ∧ ∀ y_ ∈ l0, (Lit.int .u8 y_).wf = true) → ∃ k, laws_FnPublicLogs.f k l0 = some true

theorem laws_big.val (l : List Int) : laws_big.f l = some (decide ((l.length : Int) > 1048576)) := rfl

def atV (l : List Int) (i : Nat) : Int := if i < l.length then l.getD i 0 else Int.tmod ((i : Int) * 31 + l.length * 7) 256
theorem atV_range (l : List Int) (i : Nat) (hw : ∀ y ∈ l, (Lit.int .u8 y).wf = true) : 0 ≤ atV l i ∧ atV l i ≤ 255 := by
  unfold atV
  split
  · rename_i h
    rw [getD_nat h]
    have := hw l[i] (List.getElem_mem h)
    simp [Lit.wf] at this
    have a : IntKind.u8.min = 0 := rfl
    have b : IntKind.u8.max = 255 := rfl
    omega
  · rw [Int.tmod_eq_emod_of_nonneg (by omega)]
    omega
theorem laws_at.val (l : List Int) (i : Nat) (hl : l.length ≤ 1048576) (hi : i < 1000000) (hw : ∀ y ∈ l, (Lit.int .u8 y).wf = true) : laws_at.f l (i : Int) = some (atV l i) := by
  have r := atV_range l i hw
  unfold laws_at.f
  unfold atV at r ⊢
  by_cases h : i < l.length
  · rw [if_pos (by omega), if_pos (by omega), rd_get h, if_pos h, getD_nat h]
    rw [if_pos h, getD_nat h] at r
    rw [wrap_in (by omega) (by omega)]
  · rw [if_neg (by omega), if_neg h, wrap_in (x := (i : Int) * 31) (by omega) (by omega), wrap_in (x := (l.length : Int) * 7) (by omega) (by omega), wrap_in (by omega) (by omega)]

def appendV (l : List Int) (a : Int) : List Int × Bool := if (l.length : Int) ≥ 60 then (l, false) else (l ++ [a], true)

theorem impl_joined.ev (l : List Int) (ls : List (List Int)) (hls : ls.length < 4611686018427387904) (hl : l.length + (ls.flatten).length < 17592186044416) : Ev (fun k => impl_joined.f k l ls) (l ++ ls.flatten) := by
  unfold impl_joined.f
  simp only [Option.bind_some, List.nil_append, List.length_nil]
  refine ev_pos (by omega) ?_
  have key : ∀ (d i : Nat), i + d = ls.length → ∀ s : List Int, s.length + ((ls.drop i).flatten).length < 17592186044416 → Ev (fun k => impl_joined.l0 k s ls ls.length (i : Int)) (s ++ (ls.drop i).flatten) := by
    intro d
    induction d with
    | zero =>
      intro i hi s hs
      rw [List.drop_of_length_le (by omega)]
      refine Ev.step (fun k => by rw [impl_joined.l0]) ?_
      refine ev_neg (by omega) ?_
      simpa using Ev.now s
    | succ d ih =>
      intro i hi s hs
      have h : i < ls.length := by omega
      rw [List.drop_eq_getElem_cons h] at hs ⊢
      simp only [List.flatten_cons, List.length_append] at hs ⊢
      refine Ev.step (fun k => by rw [impl_joined.l0]) ?_
      refine ev_pos (by omega) (ev_pos (by omega) (ev_pos (by omega) ?_))
      simp only [rd_L1, getD_get h, wrap_succ (show i < 4611686018427387904 by omega)]
      refine ev_pos (by omega) ?_
      have := ih (i + 1) (by omega) (s ++ ls[i]) (by rw [List.length_append]; omega)
      rwa [List.append_assoc] at this
  exact key ls.length 0 (by omega) l hl

theorem impl_AppendRecord.ev (l : List Int) (a : Int) (hl : l.length < 17592186044000) : Ev (fun k => impl_AppendRecord.f k l a) (appendV l a) := by
  unfold impl_AppendRecord.f appendV
  refine ev_ite (fun h => ?_) (fun h => ?_)
  · refine Ev.bind (impl_joined.ev l [] (by simp) (by simp; omega)) ?_
    simpa using Ev.now (l, false)
  · refine Ev.bind (impl_joined.ev l [[a]] (by simp) (by simp; omega)) ?_
    simpa using Ev.now (l ++ [a], true)

def modV (p q : Int) : Int := if 1 ≤ q ∧ q ≤ 1000000000000 then p % q else 0
theorem modV_range {p q : Int} (h : 1 ≤ q) : 0 ≤ modV p q ∧ modV p q < q := by
  unfold modV
  split
  · exact ⟨Int.emod_nonneg _ (by omega), Int.emod_lt_of_pos _ (by omega)⟩
  · omega
theorem tmod_range (p : Int) {q : Int} (h : 1 ≤ q) : -q < Int.tmod p q ∧ Int.tmod p q < q := by
  have h1 := Int.tmod_lt_of_pos p (show 0 < q by omega)
  have h2 := Int.lt_tmod_of_pos p (show 0 < q by omega)
  exact ⟨h2, h1⟩
theorem tmod_add (p : Int) {q : Int} (h : 1 ≤ q) : (Int.tmod p q + q) % q = p % q := by
  have e := Int.tmod_def p q
  have : Int.tmod p q + q = p + q * (1 - p.tdiv q) := by rw [e, Int.mul_sub]; omega
  rw [this, Int.add_mul_emod_self_left]

def hashStep (h v : Int) : Int := Int.tmod (wrap64 ((wrap64 ((wrap64 (h * 1000003)) + modV v 2147483647)) + 13)) 2147483647
def hashV (l : List Int) : Int := l.foldl hashStep 11

def rootV (l : List Int) : Int := l.foldl (fun h r => hashV [269, h, r]) 0

def publicKeyV (a : Int) : Int := if 1 ≤ a ∧ a ≤ 2147483646 then a * 48271 % 2147483647 else 0
theorem publicKeyV_range (a : Int) : 0 ≤ publicKeyV a ∧ publicKeyV a ≤ 2147483646 := by
  unfold publicKeyV
  split <;> omega

def keyedHashV (key : Int) (l : List Int) : Int := hashV ((key :: l) ++ [key])

def signV (p : Int) (m : List Int) : Int := if 1 ≤ p ∧ p ≤ 2147483646 then keyedHashV p ([139, (m.length : Int)] ++ m) else 0

def signHeadV (p s r : Int) (l : List Int) : Int × Int × Int × Int × Int × Int × Int × Bool :=
  if (1 ≤ p ∧ p ≤ 2147483646) ∧ ¬ (l.length : Int) < s ∧ rootV (l.take s.toNat) = r then (p, (l.length : Int), rootV l, (l.length : Int), rootV l, publicKeyV p, signV p [271, (l.length : Int), rootV l], true) else (p, s, r, 0, 0, 0, 0, false)

theorem impl_Mod.ev (p q : Int) : Ev (fun k => impl_Mod.f k p q) (modV p q) := by
  unfold impl_Mod.f modV
  by_cases h1 : q < 1
  · refine ev_pos h1 (Ev.step (fun k => by rw [impl_Mod.j0]) (ev_pos rfl ?_))
    rw [if_neg (show ¬ (1 ≤ q ∧ q ≤ 1000000000000) by omega)]
    exact Ev.now _
  · refine ev_neg h1 (Ev.step (fun k => by rw [impl_Mod.j0]) ?_)
    by_cases h2 : q > 1000000000000
    · refine ev_pos (by simpa using h2) ?_
      rw [if_neg (show ¬ (1 ≤ q ∧ q ≤ 1000000000000) by omega)]
      exact Ev.now _
    · refine ev_neg (by simpa using h2) (ev_neg (by omega) ?_)
      rw [if_pos (show 1 ≤ q ∧ q ≤ 1000000000000 by omega)]
      have r1 := tmod_range p (show 1 ≤ q by omega)
      have r2 := tmod_add p (show 1 ≤ q by omega)
      by_cases h3 : Int.tmod p q < 0
      · refine ev_pos h3 (ev_const ?_)
        rw [wrap_in (by omega) (by omega), ← r2, Int.emod_eq_of_lt (by omega) (by omega)]
      · refine ev_neg h3 (ev_const ?_)
        rw [← r2, Int.add_emod_right, Int.emod_eq_of_lt (by omega) (by omega)]

theorem impl_Hash.ev (l : List Int) (hl : l.length < 4611686018427387904) : Ev (fun k => impl_Hash.f k l) (hashV l) := by
  unfold impl_Hash.f
  refine scan0 (xs := l) (fun k h i => impl_Hash.l0 k h l l.length i) (fun ys h => ys.foldl hashStep h) (fun s => ?_) (fun i h s ih => ?_) 11
  · refine Ev.step (fun k => by rw [impl_Hash.l0]) ?_
    exact ev_neg (by omega) (Ev.now _)
  · refine Ev.step (fun k => by rw [impl_Hash.l0]) ?_
    refine ev_pos (by omega) (ev_pos (by omega) (ev_pos (by omega) ?_))
    rw [rd_get h, wrap_succ (by omega)]
    exact Ev.bind (impl_Mod.ev _ _) (ih _)

theorem impl_RootOf.ev (l : List Int) (n : Int) (hl : l.length < 4611686018427387904) : Ev (fun k => impl_RootOf.f k l n) (rootV (l.take n.toNat)) := by
  unfold impl_RootOf.f
  have key : ∀ (d i : Nat), i + d = (l.take n.toNat).length → ∀ h, Ev (fun k => impl_RootOf.l0 k l n h (i : Int)) (((l.take n.toNat).drop i).foldl (fun h r => hashV [269, h, r]) h) := by
    intro d
    induction d with
    | zero =>
      intro i hi h
      have e : i = (l.take n.toNat).length := by omega
      rw [List.drop_of_length_le (by omega)]
      rw [List.length_take] at e
      refine Ev.step (fun k => by rw [impl_RootOf.l0]) ?_
      refine ev_neg ?_ (Ev.now _)
      unfold mn; split <;> omega
    | succ d ih =>
      intro i hi h
      have hi2 := hi
      rw [List.length_take] at hi2
      have hx : i < (l.take n.toNat).length := by omega
      rw [List.drop_eq_getElem_cons hx]
      refine Ev.step (fun k => by rw [impl_RootOf.l0]) ?_
      refine ev_pos (by unfold mn; split <;> omega) (ev_pos (by omega) (ev_pos (by omega) ?_))
      rw [rd_get (by omega), wrap_succ (by omega)]
      refine Ev.bind (impl_Hash.ev _ (by simp)) ?_
      have := ih (i + 1) (by omega) (hashV [269, h, l[i]])
      simpa using this
  have := key (l.take n.toNat).length 0 (by omega) 0
  simpa [rootV] using this

theorem impl_InRange.val (a b c : Int) : impl_InRange.f a b c = some (decide (b ≤ a ∧ a ≤ c)) := by
  unfold impl_InRange.f
  by_cases h : b ≤ a
  · rw [if_pos h]; simp [h]
  · rw [if_neg h]; simp [h]

theorem impl_IsValidKey.val (a : Int) : impl_IsValidKey.f a = some (decide (1 ≤ a ∧ a ≤ 2147483646)) := by
  unfold impl_IsValidKey.f
  rw [impl_InRange.val]
  rfl

theorem impl_PublicKey.val (a : Int) : impl_PublicKey.f a = some (publicKeyV a) := by
  unfold impl_PublicKey.f publicKeyV
  rw [impl_IsValidKey.val]
  simp only [Option.bind_some, decide_eq_true_eq]
  by_cases h : 1 ≤ a ∧ a ≤ 2147483646
  · rw [if_pos h, if_pos h, wrap_in (by omega) (by omega), Int.tmod_eq_emod_of_nonneg (by omega)]
  · rw [if_neg h, if_neg h]

theorem impl_KeyedHash.ev (key : Int) (l : List Int) (hl : l.length < 17592186044400) : Ev (fun k => impl_KeyedHash.f k key l) (keyedHashV key l) := by
  unfold impl_KeyedHash.f keyedHashV
  refine Ev.bind (impl_joined.ev _ _ (by simp) (by simp; omega)) ?_
  simp only [List.flatten_cons, List.flatten_nil, List.append_nil]
  exact Ev.bind (impl_Hash.ev _ (by simp; omega)) (Ev.now _)

theorem impl_SignMessage.ev (p : Int) (m : List Int) (hm : m.length < 17592186044000) : Ev (fun k => impl_SignMessage.f k p m) (signV p m) := by
  unfold impl_SignMessage.f signV
  rw [impl_IsValidKey.val]
  simp only [Option.bind_some, decide_eq_true_eq]
  refine ev_ite (fun _ => ?_) (fun _ => Ev.now _)
  refine Ev.bind (impl_joined.ev _ _ (by simp) (by simp; omega)) ?_
  simp only [List.flatten_cons, List.flatten_nil, List.append_nil]
  exact Ev.bind (impl_KeyedHash.ev _ _ (by simp; omega)) (Ev.now _)

theorem impl_SignHead.ev (p s r : Int) (l : List Int) (hl : l.length < 4611686018427387904) : Ev (fun k => impl_SignHead.f k p s r l) (signHeadV p s r l) := by
  have no : ∀ (h : ¬ ((1 ≤ p ∧ p ≤ 2147483646) ∧ ¬ (l.length : Int) < s ∧ rootV (l.take s.toNat) = r)), Ev (fun k => impl_SignHead.j0 k true p s r l) (signHeadV p s r l) := by
    intro h
    unfold signHeadV
    rw [if_neg h]
    refine Ev.step (fun k => by rw [impl_SignHead.j0]) ?_
    exact ev_pos rfl (Ev.now _)
  unfold impl_SignHead.f
  refine ev_bindc (impl_IsValidKey.val p) ?_
  by_cases h1 : 1 ≤ p ∧ p ≤ 2147483646
  · refine ev_pos (by simpa using h1) ?_
    by_cases h2 : (l.length : Int) < s
    · exact ev_pos h2 (no (fun h => h.2.1 h2))
    · refine ev_neg h2 (Ev.bind (impl_RootOf.ev l s hl) ?_)
      by_cases h3 : rootV (l.take s.toNat) = r
      · rw [h3, bne_self_eq_false]
        unfold signHeadV
        rw [if_pos ⟨h1, h2, h3⟩]
        refine Ev.step (fun k => by rw [impl_SignHead.j0]) ?_
        refine ev_neg (by simp) ?_
        have e := impl_RootOf.ev l (l.length : Int) hl
        rw [Int.toNat_natCast, List.take_length] at e
        refine Ev.bind e (ev_bindc (impl_PublicKey.val p) (Ev.bind (impl_SignMessage.ev _ _ (by simp)) (Ev.now _)))
      · rw [bne_iff_ne.2 h3]
        exact no (fun h => h3 h.2.2)
  · exact ev_neg (by simpa using h1) (no (fun h => h1 h.1))

def privateKeyV (a : Int) : Int := if 1 ≤ a ∧ a ≤ 2147483646 then a * 1899818559 % 2147483647 else 0
theorem privateKeyV_range (a : Int) : 0 ≤ privateKeyV a ∧ privateKeyV a ≤ 2147483646 := by
  unfold privateKeyV
  split <;> omega
theorem private_ne (a : Int) : privateKeyV a = 0 ↔ ¬ (1 ≤ a ∧ a ≤ 2147483646) := by
  unfold privateKeyV
  split <;> omega
theorem public_private (a : Int) (h : 1 ≤ a ∧ a ≤ 2147483646) : publicKeyV (privateKeyV a) = a := by
  have h1 : privateKeyV a = a * 1899818559 % 2147483647 := if_pos h
  have h2 : 1 ≤ privateKeyV a ∧ privateKeyV a ≤ 2147483646 := by omega
  unfold publicKeyV
  rw [if_pos h2, h1]
  omega
theorem private_public (a : Int) (h : 1 ≤ a ∧ a ≤ 2147483646) : privateKeyV (publicKeyV a) = a := by
  have h1 : publicKeyV a = a * 48271 % 2147483647 := if_pos h
  have h2 : 1 ≤ publicKeyV a ∧ publicKeyV a ≤ 2147483646 := by omega
  unfold privateKeyV
  rw [if_pos h2, h1]
  omega

def verifyV (p : Int) (m : List Int) (s : Int) : Bool := if privateKeyV p = 0 then false else signV (privateKeyV p) m == s

def checkHeadV (s r w g : Int) : Bool := verifyV w [271, s, r] g && decide (0 ≤ s ∧ s ≤ 60)

theorem impl_power.evM : Ev (fun k => impl_power.f k 48271 2147483645 2147483647) 1899818559 :=
  Ev.of (k := 40) (fun k => impl_power.mono _ _ _ k) (by decide +kernel)

theorem impl_PrivateKey.ev (a : Int) : Ev (fun k => impl_PrivateKey.f k a) (privateKeyV a) := by
  unfold impl_PrivateKey.f
  rw [impl_IsValidKey.val]
  simp only [Option.bind_some, decide_eq_true_eq]
  by_cases h : 1 ≤ a ∧ a ≤ 2147483646
  · have e : privateKeyV a = a * 1899818559 % 2147483647 := if_pos h
    refine ev_pos h (Ev.bind impl_power.evM ?_)
    rw [wrap_in (by omega) (by omega), Int.tmod_eq_emod_of_nonneg (by omega), ← e]
    exact Ev.now _
  · refine ev_neg h ?_
    rw [(private_ne a).2 h]
    exact Ev.now _

theorem impl_VerifySignature.ev (p : Int) (m : List Int) (s : Int) (hm : m.length < 17592186044000) : Ev (fun k => impl_VerifySignature.f k p m s) (verifyV p m s) := by
  unfold impl_VerifySignature.f verifyV
  exact Ev.bind (impl_PrivateKey.ev p) (ev_ite (fun _ => Ev.now _) (fun _ => Ev.bind (impl_SignMessage.ev _ m hm) (Ev.now _)))

theorem impl_CheckHead.ev (s r w g : Int) : Ev (fun k => impl_CheckHead.f k s r w g) (checkHeadV s r w g) := by
  unfold impl_CheckHead.f checkHeadV
  refine Ev.bind (impl_VerifySignature.ev _ _ _ (by simp)) ?_
  cases h : verifyV w [271, s, r] g
  · exact ev_neg (by simp) (Ev.now _)
  · refine ev_pos rfl (ev_const ?_)
    rw [impl_InRange.val]
    simp

def coversV (s r w g : Int) (l : List Int) : Bool := if checkHeadV s r w g = true then (if (l.length : Int) ≥ s then rootV (l.take s.toNat) == r else false) else false

noncomputable def hasV (l : List Int) (a : Int) : Bool := dec (∃ i, i < l.length ∧ rd l (i : Int) = a)
theorem hasV_iff (l : List Int) (a : Int) : hasV l a = true ↔ a ∈ l := by
  unfold hasV
  rw [dec_iff]
  constructor
  · rintro ⟨i, h, e⟩
    rw [rd_get h] at e
    exact e ▸ List.getElem_mem h
  · intro h
    obtain ⟨i, hi, e⟩ := List.mem_iff_getElem.1 h
    exact ⟨i, hi, by rw [rd_get hi, e]⟩

noncomputable def headCoversV (s r w g : Int) (l : List Int) (a : Int) : Bool := if coversV s r w g l = true then hasV (l.take s.toNat) a else false
theorem covers_range {s r w g : Int} {l : List Int} (h : coversV s r w g l = true) : 0 ≤ s ∧ s ≤ 60 ∧ s ≤ l.length := by
  unfold coversV at h
  split at h
  · rename_i c
    split at h
    · rename_i d
      unfold checkHeadV at c
      simp only [Bool.and_eq_true, decide_eq_true_eq] at c
      omega
    · cases h
  · cases h

theorem impl_has.ev (l : List Int) (a : Int) (hl : l.length < 4611686018427387904) : Ev (fun k => impl_has.f k l a) (hasV l a) := by
  unfold impl_has.f hasV
  refine scan_any (n := l.length) (fun k i => impl_has.l0 k a l l.length i) (fun i => rd l (i : Int) = a) ?_ (fun i hi q r ih => ?_) (fun i hi q => ?_)
  · refine Ev.step (fun k => by rw [impl_has.l0]) ?_
    exact ev_neg (by omega) (Ev.now _)
  · refine Ev.step (fun k => by rw [impl_has.l0]) ?_
    rw [wrap_succ (by omega)]
    exact ev_pos (by omega) (ev_pos (by omega) (ev_pos (by omega) (ev_neg q ih)))
  · refine Ev.step (fun k => by rw [impl_has.l0]) ?_
    exact ev_pos (by omega) (ev_pos (by omega) (ev_pos (by omega) (ev_pos q (Ev.now _))))

theorem impl_HeadCovers.ev (s r w g : Int) (l : List Int) (a : Int) (hl : l.length < 4611686018427387904) : Ev (fun k => impl_HeadCovers.f k s r w g l a) (headCoversV s r w g l a) := by
  unfold impl_HeadCovers.f headCoversV coversV
  refine Ev.bind (impl_CheckHead.ev s r w g) ?_
  cases h1 : checkHeadV s r w g
  · simpa using Ev.now false
  · have h0 : 0 ≤ s := by
      unfold checkHeadV at h1
      simp only [Bool.and_eq_true, decide_eq_true_eq] at h1
      omega
    refine ev_pos rfl (ev_both (fun h2 => ?_) (fun h2 => ?_))
    · refine Ev.bind (impl_RootOf.ev l s hl) (ev_both (fun h3 => ?_) (fun h3 => ?_))
      · refine ev_pos h0 (ev_pos (by omega) (Ev.bind (impl_has.ev _ a (by rw [List.length_take]; omega)) ?_))
        simpa [h2, h3] using Ev.now _
      · simpa [h2, h3] using Ev.now false
    · simpa [h2] using Ev.now false

def areV (a b c d e f g h : Int) (l : List Int) : Bool := if coversV a b c d l = true then coversV e f g h l else false

theorem impl_AreConsistent.ev (a b c d e f g h : Int) (l : List Int) (hl : l.length < 4611686018427387904) : Ev (fun k => impl_AreConsistent.f k a b c d e f g h l) (areV a b c d e f g h l) := by
  unfold impl_AreConsistent.f areV coversV
  refine Ev.bind (impl_CheckHead.ev a b c d) ?_
  cases h1 : checkHeadV a b c d
  · simpa using Ev.now false
  · refine ev_pos rfl (Ev.bind (impl_CheckHead.ev e f g h) ?_)
    cases h2 : checkHeadV e f g h
    · simpa using Ev.now false
    · refine ev_pos rfl (ev_both (fun h3 => ?_) (fun h3 => ?_))
      · have h4 : (l.length : Int) ≥ a ∧ (l.length : Int) ≥ e := by unfold mx at h3; split at h3 <;> omega
        refine Ev.bind (impl_RootOf.ev l a hl) ?_
        by_cases h5 : rootV (l.take a.toNat) = b
        · refine ev_pos h5 (Ev.bind (impl_RootOf.ev l e hl) ?_)
          simpa [h4, h5] using Ev.now _
        · refine ev_neg h5 ?_
          simpa [h4, h5] using Ev.now false
      · have h4 : ¬ (l.length : Int) ≥ a ∨ ¬ (l.length : Int) ≥ e := by unfold mx at h3; split at h3 <;> omega
        rcases h4 with h4 | h4
        · simpa [h4] using Ev.now false
        · simpa [h4] using Ev.now false

def isSplitV (a b c d e f g h : Int) : Bool := if checkHeadV a b c d = true then (if checkHeadV e f g h = true then (if c = g then (if a = e then b != f else false) else false) else false) else false

theorem impl_IsSplit.ev (a b c d e f g h : Int) : Ev (fun k => impl_IsSplit.f k a b c d e f g h) (isSplitV a b c d e f g h) := by
  unfold impl_IsSplit.f isSplitV
  refine Ev.bind (impl_CheckHead.ev a b c d) (ev_ite (fun _ => ?_) (fun _ => Ev.now _))
  refine Ev.bind (impl_CheckHead.ev e f g h) (ev_ite (fun _ => ?_) (fun _ => Ev.now _))
  exact ev_ite (fun _ => ev_ite (fun _ => Ev.now _) (fun _ => Ev.now _)) (fun _ => Ev.now _)

theorem verify_sign (p : Int) (m : List Int) (h : 1 ≤ p ∧ p ≤ 2147483646) : verifyV (publicKeyV p) m (signV p m) = true := by
  unfold verifyV
  rw [private_public p h, if_neg (by omega)]
  simp

def recs (i : Nat) : List Int := ([100, 101, 102, 103, 104, 105] : List Int).take i
theorem recs_len (i : Nat) (h : i ≤ 6) : (recs i).length = i := by simp [recs]; omega
theorem recs_snoc (i : Nat) (h : i < 6) : recs i ++ [100 + (i : Int)] = recs (i + 1) :=
  (by decide +kernel : ∀ i : Fin 6, recs i.val ++ [100 + (i.val : Int)] = recs (i.val + 1)) ⟨i, h⟩
theorem recs_take (i m : Nat) (h : m ≤ i) : (recs i).take m = recs m := by
  unfold recs
  rw [List.take_take, Nat.min_eq_left h]
theorem recs_mem (i : Nat) (h : i < 6) : 100 + (i : Int) ∈ recs (i + 1) :=
  (by decide +kernel : ∀ i : Fin 6, 100 + (i.val : Int) ∈ recs (i.val + 1)) ⟨i, h⟩
theorem recs_no (i : Nat) (h : i < 6) : ¬ 101 + (i : Int) ∈ recs (i + 1) :=
  (by decide +kernel : ∀ i : Fin 6, ¬ 101 + (i.val : Int) ∈ recs (i.val + 1)) ⟨i, h⟩
theorem recs_other (m : Nat) (h : 1 ≤ m ∧ m ≤ 6) : rootV (([7] ++ recs 6).take m) ≠ rootV (recs m) := by
  have := (by decide +kernel : ∀ i : Fin 6, rootV (([7] ++ recs 6).take (i.val + 1)) ≠ rootV (recs (i.val + 1))) ⟨m - 1, by omega⟩
  simpa [show m - 1 + 1 = m by omega] using this
def hd (p : Int) (s : Nat) : S58 := ⟨(s : Int), rootV (recs s), publicKeyV p, signV p [271, (s : Int), rootV (recs s)]⟩
theorem hd_check (p : Int) (s : Nat) (hp : 1 ≤ p ∧ p ≤ 2147483646) (hs : s ≤ 6) : checkHeadV (hd p s).f0 (hd p s).f1 (hd p s).f2 (hd p s).f3 = true := by
  unfold checkHeadV hd
  rw [verify_sign p _ hp]
  simp
  omega
theorem hd_covers (p : Int) (s i : Nat) (hp : 1 ≤ p ∧ p ≤ 2147483646) (hs : s ≤ i) (hi : i ≤ 6) : coversV (hd p s).f0 (hd p s).f1 (hd p s).f2 (hd p s).f3 (recs i) = true := by
  unfold coversV
  rw [if_pos (hd_check p s hp (by omega)), if_pos (by rw [recs_len i hi]; show (i : Int) ≥ (s : Int); omega)]
  show (rootV ((recs i).take (s : Int).toNat) == rootV (recs s)) = true
  rw [Int.toNat_natCast, recs_take i s hs]
  simp
theorem publicLoop1 (k m : Nat) (p : Int) (hp : 1 ≤ p ∧ p ≤ 2147483646) (hs : List S58) (good : ∀ h ∈ hs, ∃ s : Nat, 1 ≤ s ∧ s ≤ 6 ∧ h = hd p s) (hlen : hs.length ≤ 6) (hm : m ≤ 6) (he : hs = [] ↔ m = 0) : Ev (fun n => laws_FnPublicLogs.l1 n hs 0 (recs 6) p (m : Int) (rootV (recs m))) true := by
  have get : ∀ j, j < hs.length → ∃ s : Nat, 1 ≤ s ∧ s ≤ 6 ∧ rd_T58 hs (j : Int) = hd p s := by
    intro j hj
    obtain ⟨s, s1, s6, e⟩ := good hs[j] (List.getElem_mem hj)
    exact ⟨s, s1, s6, by rw [rd_T58, getD_get hj, e]⟩
  have key : ∀ (d i : Nat), i + d = hs.length → Ev (fun n => laws_FnPublicLogs.l1 n hs (i : Int) (recs 6) p (m : Int) (rootV (recs m))) true := by
    intro d
    induction d with
    | zero =>
      intro i hi
      refine Ev.step (fun k => by rw [laws_FnPublicLogs.l1]) ?_
      refine ev_neg (by omega) (ev_bindc rfl (ev_pos (by rw [recs_len 6 (by omega)]; simp) (ev_bindc rfl ?_)))
      refine Ev.bind (impl_SignHead.ev p m (rootV (recs m)) ([7] ++ recs 6) (by simp [recs])) ?_
      by_cases hm0 : m = 0
      · have h0 := he.2 hm0
        subst hm0
        have e : signHeadV p ((0 : Nat) : Int) (rootV (recs 0)) ([7] ++ recs 6) = (p, ((([7] ++ recs 6 : List Int).length : Nat) : Int), rootV ([7] ++ recs 6), ((([7] ++ recs 6 : List Int).length : Nat) : Int), rootV ([7] ++ recs 6), publicKeyV p, signV p [271, ((([7] ++ recs 6 : List Int).length : Nat) : Int), rootV ([7] ++ recs 6)], true) := by
          unfold signHeadV
          rw [if_pos ⟨hp, by omega, rfl⟩]
        rw [e]
        refine ev_pos (by simp) (ev_pos (by rw [h0]; rfl) (ev_pos rfl (Ev.now _)))
      · have hne : hs ≠ [] := fun e => hm0 (he.1 e)
        have hpos : 0 < hs.length := List.length_pos_iff.2 hne
        have e : signHeadV p (m : Int) (rootV (recs m)) ([7] ++ recs 6) = (p, (m : Int), rootV (recs m), 0, 0, 0, 0, false) := by
          unfold signHeadV
          rw [if_neg]
          intro g
          have := g.2.2
          rw [Int.toNat_natCast] at this
          exact recs_other m (by omega) this
        rw [e]
        refine ev_pos (by simp; omega) (ev_neg (by omega) (ev_pos (by omega) ?_))
        obtain ⟨s, s1, s6, es⟩ := get 0 hpos
        rw [show ((0 : Nat) : Int) = 0 from rfl] at es
        rw [es]
        have no : areV (hd p s).f0 (hd p s).f1 (hd p s).f2 (hd p s).f3 (hd p s).f0 (hd p s).f1 (hd p s).f2 (hd p s).f3 ([7] ++ recs 6) = false := by
          have : coversV (hd p s).f0 (hd p s).f1 (hd p s).f2 (hd p s).f3 ([7] ++ recs 6) = false := by
            unfold coversV
            split
            · split
              · show (rootV (([7] ++ recs 6).take (s : Int).toNat) == rootV (recs s)) = false
                rw [Int.toNat_natCast]
                exact beq_eq_false_iff_ne.2 (recs_other s ⟨s1, s6⟩)
              · rfl
            · rfl
          unfold areV
          rw [this]
          rfl
        refine Ev.bind (ev_eq (impl_AreConsistent.ev _ _ _ _ _ _ _ _ _ (by simp [recs])) no) (ev_neg (by simp) (ev_neg (by simp) (Ev.now _)))
    | succ d ih =>
      intro i hi
      obtain ⟨s, s1, s6, es⟩ := get 0 (by omega)
      obtain ⟨t, t1, t6, et⟩ := get i (by omega)
      rw [show ((0 : Nat) : Int) = 0 from rfl] at es
      refine Ev.step (fun k => by rw [laws_FnPublicLogs.l1]) ?_
      rw [es, et]
      refine ev_pos (by omega) (ev_pos (by omega) (ev_pos (by omega) ?_))
      have yes : areV (hd p s).f0 (hd p s).f1 (hd p s).f2 (hd p s).f3 (hd p t).f0 (hd p t).f1 (hd p t).f2 (hd p t).f3 (recs 6) = true := by
        unfold areV
        rw [if_pos (hd_covers p s 6 hp s6 (by omega))]
        exact hd_covers p t 6 hp t6 (by omega)
      refine Ev.bind (ev_eq (impl_AreConsistent.ev _ _ _ _ _ _ _ _ _ (by simp [recs])) yes) (ev_pos rfl ?_)
      have no : isSplitV (hd p s).f0 (hd p s).f1 (hd p s).f2 (hd p s).f3 (hd p t).f0 (hd p t).f1 (hd p t).f2 (hd p t).f3 = false := by
        unfold isSplitV
        rw [if_pos (hd_check p s hp s6), if_pos (hd_check p t hp t6), if_pos (show (hd p s).f2 = (hd p t).f2 from rfl)]
        split
        · rename_i e
          have e' : s = t := by
            have : ((s : Nat) : Int) = (t : Int) := e
            omega
          subst e'
          simp
        · rfl
      refine Ev.bind (ev_eq (impl_IsSplit.ev _ _ _ _ _ _ _ _) no) (ev_neg (by simp) ?_)
      have er : rootV ((recs 6).take ((hd p t).f0).toNat) = (hd p t).f1 := by
        show rootV ((recs 6).take (t : Int).toNat) = rootV (recs t)
        rw [Int.toNat_natCast, recs_take 6 t t6]
      refine Ev.bind (ev_eq (impl_RootOf.ev (recs 6) _ (by simp [recs])) er) (ev_pos rfl ?_)
      rw [wrap_succ (by omega)]
      exact ih (i + 1) (by omega)
  exact key hs.length 0 (by omega)
theorem publicLoop0 (l : List Int) (hl : l.length ≤ 1048576) (hw : ∀ y ∈ l, (Lit.int .u8 y).wf = true) (p : Int) (hp : 1 ≤ p ∧ p ≤ 2147483646) : ∀ (d i : Nat), i + d = 6 → ∀ (hs : List S58) (m : Nat), (∀ h ∈ hs, ∃ s : Nat, 1 ≤ s ∧ s ≤ 6 ∧ h = hd p s) → hs.length ≤ i → m ≤ i → (hs = [] ↔ m = 0) → Ev (fun n => laws_FnPublicLogs.l0 n l hs (i : Int) (recs i) p (m : Int) (rootV (recs m))) true := by
  intro d
  induction d with
  | zero =>
    intro i hi hs m good hlen hm he
    obtain rfl : i = 6 := by omega
    refine Ev.step (fun k => by rw [laws_FnPublicLogs.l0]) ?_
    exact ev_neg (by omega) (publicLoop1 0 m p hp hs good hlen hm he)
  | succ d ih =>
    intro i hi hs m good hlen hm he
    have hi6 : i < 6 := by omega
    refine Ev.step (fun k => by rw [laws_FnPublicLogs.l0]) ?_
    rw [wrap_succ (i := i) (by omega), wrap_in (x := 100 + (i : Int)) (by omega) (by omega), wrap_in (x := 100 + (i : Int) + 1) (by omega) (by omega)]
    have ea : appendV (recs i) (100 + (i : Int)) = (recs (i + 1), true) := by
      unfold appendV
      rw [if_neg (by rw [recs_len i (by omega)]; omega), recs_snoc i hi6]
    have hL := recs_len (i + 1) (by omega)
    refine ev_pos (by omega) (Ev.bind (ev_eq (impl_AppendRecord.ev _ _ (by rw [recs_len i (by omega)]; omega)) ea) (ev_pos rfl (ev_bindc (laws_at.val l (i + 1) hl (by omega) hw) ?_)))
    refine ev_both (fun _ => ?_) (fun _ => ?_)
    · have e : signHeadV p (m : Int) (rootV (recs m)) (recs (i + 1)) = (p, ((i + 1 : Nat) : Int), rootV (recs (i + 1)), ((i + 1 : Nat) : Int), rootV (recs (i + 1)), publicKeyV p, signV p [271, ((i + 1 : Nat) : Int), rootV (recs (i + 1))], true) := by
        unfold signHeadV
        rw [if_pos ⟨hp, by rw [hL]; omega, by rw [Int.toNat_natCast, recs_take (i + 1) m (by omega)]⟩, hL]
      refine Ev.bind (ev_eq (impl_SignHead.ev _ _ _ _ (by rw [hL]; omega)) e) (ev_pos rfl ?_)
      refine Ev.bind (ev_eq (impl_CheckHead.ev _ _ _ _) (hd_check p (i + 1) hp (by omega))) (ev_pos rfl (ev_pos rfl ?_))
      have c1 : headCoversV (hd p (i + 1)).f0 (hd p (i + 1)).f1 (hd p (i + 1)).f2 (hd p (i + 1)).f3 (recs (i + 1)) (100 + (i : Int)) = true := by
        unfold headCoversV
        rw [if_pos (hd_covers p (i + 1) (i + 1) hp (by omega) (by omega)), hasV_iff]
        show 100 + (i : Int) ∈ (recs (i + 1)).take ((i + 1 : Nat) : Int).toNat
        rw [Int.toNat_natCast, recs_take (i + 1) (i + 1) (by omega)]
        exact recs_mem i hi6
      have c2 : headCoversV (hd p (i + 1)).f0 (hd p (i + 1)).f1 (hd p (i + 1)).f2 (hd p (i + 1)).f3 (recs (i + 1)) (100 + (i : Int) + 1) = false := by
        unfold headCoversV
        rw [if_pos (hd_covers p (i + 1) (i + 1) hp (by omega) (by omega))]
        cases hh : hasV ((recs (i + 1)).take ((hd p (i + 1)).f0).toNat) (100 + (i : Int) + 1)
        · rfl
        · rw [hasV_iff] at hh
          have hh' : 100 + (i : Int) + 1 ∈ (recs (i + 1)).take ((i + 1 : Nat) : Int).toNat := hh
          rw [Int.toNat_natCast, recs_take (i + 1) (i + 1) (by omega), show 100 + (i : Int) + 1 = 101 + (i : Int) by omega] at hh'
          exact absurd hh' (recs_no i hi6)
      refine Ev.bind (ev_eq (impl_HeadCovers.ev _ _ _ _ _ _ (by rw [hL]; omega)) c1) (ev_pos rfl ?_)
      refine Ev.bind (ev_eq (impl_HeadCovers.ev _ _ _ _ _ _ (by rw [hL]; omega)) c2) (ev_neg (by simp) (ev_pos (by omega) ?_))
      refine ih (i + 1) (by omega) (hs ++ [hd p (i + 1)]) (i + 1) (fun h hh => ?_) (by simp; omega) (by omega) (by simp)
      rcases List.mem_append.1 hh with g | g
      · exact good h g
      · exact ⟨i + 1, by omega, by omega, by simpa using g⟩
    · exact ih (i + 1) (by omega) hs m good (by omega) (by omega) he
theorem FnPublicLogs : Claim := by
  intro l ⟨hl, hw⟩
  refine Ev.rounds (r := true) ?_
  unfold laws_FnPublicLogs.f
  refine ev_bindc (laws_big.val l) (ev_both (fun _ => Ev.now _) (fun h => ?_))
  have h' : l.length ≤ 1048576 := by simp at h; omega
  have r0 := atV_range l 0 hw
  refine ev_bindc (laws_at.val l 0 h' (by omega) hw) ?_
  rw [wrap_in (x := 1 + atV l 0) (by omega) (by omega)]
  exact publicLoop0 l h' hw (1 + atV l 0) (by omega) 6 0 (by omega) [] 0 (fun h hh => by cases hh) (by simp) (by omega) (by simp)

end Go.Proofs.Ytfaecdhobmalfaa.Pure
