/- The program's IsSplit returns what the reference's returns, for all arguments that the row lets in; no condition besides. Here: the plain side, over the printed functions. -/
import Derived.Test.YtanoaneoanpkkaaPFnExactIsSplitx4
import Derived.Test.YtanoaneoanpkkaaKit
namespace Go.Proofs.Ytanoaneoanpkkaa.Pure
open Go.RowKit Go.Proofs.Ytanoaneoanpkkaa.PFnExactIsSplit Go.Proofs.YtanoaneoanpkkaaW.PrintWords Go.Proofs.YtanoaneoanpkkaaW.PrintLast Go.Proofs.YtanoaneoanpkkaaW.PrintMore Go.Proofs.Ytanoaneoanpkkaa.Kit
set_option linter.unusedVariables false
set_option linter.unusedSimpArgs false

/-- What is to be proved of the printed functions. -/
def Claim : Prop := ∀ (a0_0 : Int), ∀ (a0_1 : Int), ∀ (a0_2 : Int), ∀ (a0_3 : Int), ∀ (a1_0 : Int), ∀ (a1_1 : Int), ∀ (a1_2 : Int), ∀ (a1_3 : Int), ((Lit.int .i64 a0_0).wf = true) → ((Lit.int .i64 a0_1).wf = true) → ((Lit.int .i64 a0_2).wf = true) → ((Lit.int .i64 a0_3).wf = true) → ((Lit.int .i64 a1_0).wf = true) → ((Lit.int .i64 a1_1).wf = true) → ((Lit.int .i64 a1_2).wf = true) → ((Lit.int .i64 a1_3).wf = true) → ∃ k, laws_FnExactIsSplit.f k a0_0 a0_1 a0_2 a0_3 a1_0 a1_1 a1_2 a1_3 = some true

def modV (p q : Int) : Int := if 1 ≤ q ∧ q ≤ 1000000000000 then p % q else 0
theorem modV_range {p q : Int} (h : 1 ≤ q) : 0 ≤ modV p q ∧ modV p q < q := by
  unfold modV
  split
  · exact ⟨Int.emod_nonneg _ (by omega), Int.emod_lt_of_pos _ (by omega)⟩
  · omega
theorem tmod_range (p : Int) {q : Int} (h : 1 ≤ q) : -q < Int.tmod p q ∧ Int.tmod p q < q := by
  have h1 := Int.tmod_lt_of_pos p (show 0 < q by omega)
  have h2 := Int.lt_tmod_of_pos p (show 0 < q by omega)
  exact ⟨h2, h1⟩
theorem tmod_add (p : Int) {q : Int} (h : 1 ≤ q) : (Int.tmod p q + q) % q = p % q := by
  have e := Int.tmod_def p q
  have : Int.tmod p q + q = p + q * (1 - p.tdiv q) := by rw [e, Int.mul_sub]; omega
  rw [this, Int.add_mul_emod_self_left]

def hashStep (h v : Int) : Int := Int.tmod (wrap64 ((wrap64 ((wrap64 (h * 1000003)) + modV v 2147483647)) + 13)) 2147483647
def hashV (l : List Int) : Int := l.foldl hashStep 11

def keyedHashV (key : Int) (l : List Int) : Int := hashV ((key :: l) ++ [key])

def signV (p : Int) (m : List Int) : Int := if 1 ≤ p ∧ p ≤ 2147483646 then keyedHashV p ([139, (m.length : Int)] ++ m) else 0

def publicKeyV (a : Int) : Int := if 1 ≤ a ∧ a ≤ 2147483646 then a * 48271 % 2147483647 else 0
theorem publicKeyV_range (a : Int) : 0 ≤ publicKeyV a ∧ publicKeyV a ≤ 2147483646 := by
  unfold publicKeyV
  split <;> omega

def privateKeyV (a : Int) : Int := if 1 ≤ a ∧ a ≤ 2147483646 then a * 1899818559 % 2147483647 else 0
theorem privateKeyV_range (a : Int) : 0 ≤ privateKeyV a ∧ privateKeyV a ≤ 2147483646 := by
  unfold privateKeyV
  split <;> omega
theorem private_ne (a : Int) : privateKeyV a = 0 ↔ ¬ (1 ≤ a ∧ a ≤ 2147483646) := by
  unfold privateKeyV
  split <;> omega
theorem public_private (a : Int) (h : 1 ≤ a ∧ a ≤ 2147483646) : publicKeyV (privateKeyV a) = a := by
  have h1 : privateKeyV a = a * 1899818559 % 2147483647 := if_pos h
  have h2 : 1 ≤ privateKeyV a ∧ privateKeyV a ≤ 2147483646 := by omega
  unfold publicKeyV
  rw [if_pos h2, h1]
  omega
theorem private_public (a : Int) (h : 1 ≤ a ∧ a ≤ 2147483646) : privateKeyV (publicKeyV a) = a := by
  have h1 : publicKeyV a = a * 48271 % 2147483647 := if_pos h
  have h2 : 1 ≤ publicKeyV a ∧ publicKeyV a ≤ 2147483646 := by omega
  unfold privateKeyV
  rw [if_pos h2, h1]
  omega

def verifyV (p : Int) (m : List Int) (s : Int) : Bool := if privateKeyV p = 0 then false else signV (privateKeyV p) m == s

def checkHeadV (s r w g : Int) : Bool := verifyV w [271, s, r] g && decide (0 ≤ s ∧ s ≤ 60)

def isSplitV (a b c d e f g h : Int) : Bool := if checkHeadV a b c d = true then (if checkHeadV e f g h = true then (if c = g then (if a = e then b != f else false) else false) else false) else false

theorem spec_l6Power.ev : Ev (fun k => spec_l6Power.f k 48271 2147483645) 1899818559 :=
  Ev.of (k := 40) (fun k => spec_l6Power.mono _ _ k) (by decide +kernel)

theorem spec_l1In.val (a b c : Int) : spec_l1In.f a b c = some (decide (b ≤ a ∧ a ≤ c)) := by
  unfold spec_l1In.f
  by_cases h : a ≥ b
  · rw [if_pos h]; simp only [ge_iff_le] at h; simp [h]
  · rw [if_neg h]; simp only [ge_iff_le] at h; simp [h]

theorem spec_IsValidKey.val (a : Int) : spec_IsValidKey.f a = some (decide (1 ≤ a ∧ a ≤ 2147483646)) := by
  unfold spec_IsValidKey.f
  rw [spec_l1In.val]
  rfl

theorem spec_PublicKey.val (a : Int) : spec_PublicKey.f a = some (publicKeyV a) := by
  unfold spec_PublicKey.f publicKeyV
  rw [spec_IsValidKey.val]
  simp only [Option.bind_some, decide_eq_true_eq]
  by_cases h : 1 ≤ a ∧ a ≤ 2147483646
  · rw [if_pos h, if_pos h, wrap_in (by omega) (by omega), Int.tmod_eq_emod_of_nonneg (by omega)]
  · rw [if_neg h, if_neg h]

theorem spec_PrivateKey.ev (a : Int) : Ev (fun k => spec_PrivateKey.f k a) (privateKeyV a) := by
  unfold spec_PrivateKey.f
  rw [spec_l1In.val]
  simp only [Option.bind_some, decide_eq_true_eq]
  by_cases h : 1 ≤ a ∧ a ≤ 2147483646
  · have e : privateKeyV a = a * 1899818559 % 2147483647 := if_pos h
    refine ev_pos h (Ev.bind spec_l6Power.ev ?_)
    rw [wrap_in (by omega) (by omega), Int.tmod_eq_emod_of_nonneg (by omega), ← e]
    refine ev_bindc (spec_PublicKey.val _) (ev_pos (public_private a h) (Ev.now _))
  · refine ev_neg h ?_
    rw [(private_ne a).2 h]
    exact Ev.now _

theorem spec_Mod.val (p q : Int) : spec_Mod.f p q = some (modV p q) := by
  unfold spec_Mod.f modV
  rw [spec_l1In.val]
  simp only [Option.bind_some]
  by_cases h : 1 ≤ q ∧ q ≤ 1000000000000
  · have h1 := tmod_range p h.1
    have h2 := tmod_add p h.1
    rw [if_pos h, if_pos (by simp [h]), if_neg (by omega), wrap_in (by omega) (by omega), Int.tmod_eq_emod_of_nonneg (by omega), h2]
  · rw [if_neg h, if_neg (by simpa using h)]

theorem spec_Hash.ev (l : List Int) (hl : l.length < 4611686018427387904) : Ev (fun k => spec_Hash.f k l) (hashV l) := by
  unfold spec_Hash.f
  refine scan0 (xs := l) (fun k h i => spec_Hash.l0 k l h i) (fun ys h => ys.foldl hashStep h) (fun s => ?_) (fun i h s ih => ?_) 11
  · refine Ev.step (fun k => by rw [spec_Hash.l0]) ?_
    exact ev_neg (by omega) (Ev.now _)
  · refine Ev.step (fun k => by rw [spec_Hash.l0]) ?_
    refine ev_pos (by omega) (ev_pos (by omega) ?_)
    rw [rd_get h, spec_Mod.val, wrap_succ (by omega)]
    exact ih _

theorem spec_KeyedHash.ev (key : Int) (l : List Int) (hl : l.length < 17592186044400) : Ev (fun k => spec_KeyedHash.f k key l) (keyedHashV key l) := by
  unfold spec_KeyedHash.f keyedHashV
  simp only [Option.bind_some]
  refine ev_pos (by simp; omega) (ev_pos (by simp; omega) (Ev.bind (spec_Hash.ev _ (by simp; omega)) (Ev.now _)))

theorem spec_SignMessage.ev (p : Int) (m : List Int) (hm : m.length < 17592186044000) : Ev (fun k => spec_SignMessage.f k p m) (signV p m) := by
  unfold spec_SignMessage.f signV
  rw [spec_IsValidKey.val]
  simp only [Option.bind_some, decide_eq_true_eq]
  refine ev_ite (fun _ => ?_) (fun _ => Ev.now _)
  exact ev_pos (by simp; omega) (Ev.bind (spec_KeyedHash.ev _ _ (by simp; omega)) (Ev.now _))

theorem spec_VerifySignature.ev (p : Int) (m : List Int) (s : Int) (hm : m.length < 17592186044000) : Ev (fun k => spec_VerifySignature.f k p m s) (verifyV p m s) := by
  unfold spec_VerifySignature.f verifyV
  exact Ev.bind (spec_PrivateKey.ev p) (ev_ite (fun _ => Ev.now _) (fun _ => Ev.bind (spec_SignMessage.ev _ m hm) (Ev.now _)))

theorem spec_CheckHead.ev (s r w g : Int) : Ev (fun k => spec_CheckHead.f k s r w g) (checkHeadV s r w g) := by
  unfold spec_CheckHead.f checkHeadV
  refine ev_bindc rfl (Ev.bind (spec_VerifySignature.ev _ _ _ (by simp)) ?_)
  cases h : verifyV w [271, s, r] g
  · exact ev_neg (by simp) (Ev.now _)
  · refine ev_pos rfl (ev_const ?_)
    rw [spec_l1In.val]
    simp

theorem spec_IsSplit.ev (a b c d e f g h : Int) : Ev (fun k => spec_IsSplit.f k a b c d e f g h) (isSplitV a b c d e f g h) := by
  unfold spec_IsSplit.f isSplitV
  refine Ev.bind (spec_CheckHead.ev a b c d) (ev_ite (fun _ => ?_) (fun _ => Ev.now _))
  refine Ev.bind (spec_CheckHead.ev e f g h) (ev_ite (fun _ => ?_) (fun _ => Ev.now _))
  exact ev_ite (fun _ => ev_ite (fun _ => Ev.now _) (fun _ => Ev.now _)) (fun _ => Ev.now _)

theorem impl_power.evM : Ev (fun k => impl_power.f k 48271 2147483645 2147483647) 1899818559 :=
  Ev.of (k := 40) (fun k => impl_power.mono _ _ _ k) (by decide +kernel)

theorem impl_InRange.val (a b c : Int) : impl_InRange.f a b c = some (decide (b ≤ a ∧ a ≤ c)) := by
  unfold impl_InRange.f
  by_cases h : b ≤ a
  · rw [if_pos h]; simp [h]
  · rw [if_neg h]; simp [h]

theorem impl_IsValidKey.val (a : Int) : impl_IsValidKey.f a = some (decide (1 ≤ a ∧ a ≤ 2147483646)) := by
  unfold impl_IsValidKey.f
  rw [impl_InRange.val]
  rfl

theorem impl_PrivateKey.ev (a : Int) : Ev (fun k => impl_PrivateKey.f k a) (privateKeyV a) := by
  unfold impl_PrivateKey.f
  rw [impl_IsValidKey.val]
  simp only [Option.bind_some, decide_eq_true_eq]
  by_cases h : 1 ≤ a ∧ a ≤ 2147483646
  · have e : privateKeyV a = a * 1899818559 % 2147483647 := if_pos h
    refine ev_pos h (Ev.bind impl_power.evM ?_)
    rw [wrap_in (by omega) (by omega), Int.tmod_eq_emod_of_nonneg (by omega), ← e]
    exact Ev.now _
  · refine ev_neg h ?_
    rw [(private_ne a).2 h]
    exact Ev.now _

theorem impl_Mod.ev (p q : Int) : Ev (fun k => impl_Mod.f k p q) (modV p q) := by
  unfold impl_Mod.f modV
  by_cases h1 : q < 1
  · refine ev_pos h1 (Ev.step (fun k => by rw [impl_Mod.j0]) (ev_pos rfl ?_))
    rw [if_neg (show ¬ (1 ≤ q ∧ q ≤ 1000000000000) by omega)]
    exact Ev.now _
  · refine ev_neg h1 (Ev.step (fun k => by rw [impl_Mod.j0]) ?_)
    by_cases h2 : q > 1000000000000
    · refine ev_pos (by simpa using h2) ?_
      rw [if_neg (show ¬ (1 ≤ q ∧ q ≤ 1000000000000) by omega)]
      exact Ev.now _
    · refine ev_neg (by simpa using h2) (ev_neg (by omega) ?_)
      rw [if_pos (show 1 ≤ q ∧ q ≤ 1000000000000 by omega)]
      have r1 := tmod_range p (show 1 ≤ q by omega)
      have r2 := tmod_add p (show 1 ≤ q by omega)
      by_cases h3 : Int.tmod p q < 0
      · refine ev_pos h3 (ev_const ?_)
        rw [wrap_in (by omega) (by omega), ← r2, Int.emod_eq_of_lt (by omega) (by omega)]
      · refine ev_neg h3 (ev_const ?_)
        rw [← r2, Int.add_emod_right, Int.emod_eq_of_lt (by omega) (by omega)]

theorem impl_Hash.ev (l : List Int) (hl : l.length < 4611686018427387904) : Ev (fun k => impl_Hash.f k l) (hashV l) := by
  unfold impl_Hash.f
  refine scan0 (xs := l) (fun k h i => impl_Hash.l0 k h l l.length i) (fun ys h => ys.foldl hashStep h) (fun s => ?_) (fun i h s ih => ?_) 11
  · refine Ev.step (fun k => by rw [impl_Hash.l0]) ?_
    exact ev_neg (by omega) (Ev.now _)
  · refine Ev.step (fun k => by rw [impl_Hash.l0]) ?_
    refine ev_pos (by omega) (ev_pos (by omega) (ev_pos (by omega) ?_))
    rw [rd_get h, wrap_succ (by omega)]
    exact Ev.bind (impl_Mod.ev _ _) (ih _)

theorem impl_joined.ev (l : List Int) (ls : List (List Int)) (hls : ls.length < 4611686018427387904) (hl : l.length + (ls.flatten).length < 17592186044416) : Ev (fun k => impl_joined.f k l ls) (l ++ ls.flatten) := by
  unfold impl_joined.f
  simp only [Option.bind_some, List.nil_append, List.length_nil]
  refine ev_pos (by omega) ?_
  have key : ∀ (d i : Nat), i + d = ls.length → ∀ s : List Int, s.length + ((ls.drop i).flatten).length < 17592186044416 → Ev (fun k => impl_joined.l0 k s ls ls.length (i : Int)) (s ++ (ls.drop i).flatten) := by
    intro d
    induction d with
    | zero =>
      intro i hi s hs
      rw [List.drop_of_length_le (by omega)]
      refine Ev.step (fun k => by rw [impl_joined.l0]) ?_
      refine ev_neg (by omega) ?_
      simpa using Ev.now s
    | succ d ih =>
      intro i hi s hs
      have h : i < ls.length := by omega
      rw [List.drop_eq_getElem_cons h] at hs ⊢
      simp only [List.flatten_cons, List.length_append] at hs ⊢
      refine Ev.step (fun k => by rw [impl_joined.l0]) ?_
      refine ev_pos (by omega) (ev_pos (by omega) (ev_pos (by omega) ?_))
      simp only [rd_L1, getD_get h, wrap_succ (show i < 4611686018427387904 by omega)]
      refine ev_pos (by omega) ?_
      have := ih (i + 1) (by omega) (s ++ ls[i]) (by rw [List.length_append]; omega)
      rwa [List.append_assoc] at this
  exact key ls.length 0 (by omega) l hl

theorem impl_KeyedHash.ev (key : Int) (l : List Int) (hl : l.length < 17592186044400) : Ev (fun k => impl_KeyedHash.f k key l) (keyedHashV key l) := by
  unfold impl_KeyedHash.f keyedHashV
  refine Ev.bind (impl_joined.ev _ _ (by simp) (by simp; omega)) ?_
  simp only [List.flatten_cons, List.flatten_nil, List.append_nil]
  exact Ev.bind (impl_Hash.ev _ (by simp; omega)) (Ev.now _)

theorem impl_SignMessage.ev (p : Int) (m : List Int) (hm : m.length < 17592186044000) : Ev (fun k => impl_SignMessage.f k p m) (signV p m) := by
  unfold impl_SignMessage.f signV
  rw [impl_IsValidKey.val]
  simp only [Option.bind_some, decide_eq_true_eq]
  refine ev_ite (fun _ => ?_) (fun _ => Ev.now _)
  refine Ev.bind (impl_joined.ev _ _ (by simp) (by simp; omega)) ?_
  simp only [List.flatten_cons, List.flatten_nil, List.append_nil]
  exact Ev.bind (impl_KeyedHash.ev _ _ (by simp; omega)) (Ev.now _)

theorem impl_VerifySignature.ev (p : Int) (m : List Int) (s : Int) (hm : m.length < 17592186044000) : Ev (fun k => impl_VerifySignature.f k p m s) (verifyV p m s) := by
  unfold impl_VerifySignature.f verifyV
  exact Ev.bind (impl_PrivateKey.ev p) (ev_ite (fun _ => Ev.now _) (fun _ => Ev.bind (impl_SignMessage.ev _ m hm) (Ev.now _)))

theorem impl_CheckHead.ev (s r w g : Int) : Ev (fun k => impl_CheckHead.f k s r w g) (checkHeadV s r w g) := by
  unfold impl_CheckHead.f checkHeadV
  refine Ev.bind (impl_VerifySignature.ev _ _ _ (by simp)) ?_
  cases h : verifyV w [271, s, r] g
  · exact ev_neg (by simp) (Ev.now _)
  · refine ev_pos rfl (ev_const ?_)
    rw [impl_InRange.val]
    simp

theorem impl_IsSplit.ev (a b c d e f g h : Int) : Ev (fun k => impl_IsSplit.f k a b c d e f g h) (isSplitV a b c d e f g h) := by
  unfold impl_IsSplit.f isSplitV
  refine Ev.bind (impl_CheckHead.ev a b c d) (ev_ite (fun _ => ?_) (fun _ => Ev.now _))
  refine Ev.bind (impl_CheckHead.ev e f g h) (ev_ite (fun _ => ?_) (fun _ => Ev.now _))
  exact ev_ite (fun _ => ev_ite (fun _ => Ev.now _) (fun _ => Ev.now _)) (fun _ => Ev.now _)

theorem FnExactIsSplit : Claim := by
  intro a b c d e f g h _ _ _ _ _ _ _ _
  refine Ev.rounds (r := true) ?_
  unfold laws_FnExactIsSplit.f
  refine ev_bindc rfl (ev_bindc rfl (Ev.bind (spec_IsSplit.ev a b c d e f g h) (ev_bindc rfl (ev_bindc rfl (Ev.bind (impl_IsSplit.ev a b c d e f g h) ?_)))))
  exact ev_neg (by simp) (Ev.now _)

end Go.Proofs.Ytanoaneoanpkkaa.Pure
