/- The program's HeadCovers returns what the reference's returns, for all arguments that the row lets in; no condition besides. Here: the plain side, over the printed functions. -/
import Derived.Test.YtjggdakbphjomaaZFnExactHeadCoversx7
import Derived.Test.YtjggdakbphjomaaKitV
namespace Go.Proofs.Ytjggdakbphjomaa.Pure
open Go.RowKit Go.Proofs.Ytjggdakbphjomaa.ZFnExactHeadCovers Go.Proofs.YtjggdakbphjomaaW.PrintWords Go.Proofs.YtjggdakbphjomaaW.PrintLast Go.Proofs.YtjggdakbphjomaaW.PrintMore Go.Proofs.Ytjggdakbphjomaa.Kit
set_option linter.unusedVariables false
set_option linter.unusedSimpArgs false

/-- What is to be proved of the printed functions. -/
def Claim : Prop := ∀ (a0_0 : Int), ∀ (a0_1 : Int), ∀ (a0_2 : Int), ∀ (a0_3 : Int), ∀ (l1_0 : List Int), ∀ (a2 : Int), ((Lit.int .i64 a0_0).wf = true) → ((Lit.int .i64 a0_1).wf = true) → ((Lit.int .i64 a0_2).wf = true) → ((Lit.int .i64 a0_3).wf = true) → (l1_0.length ≤ maxLen ∧ ∀ y_ ∈ l1_0, (Lit.int .i64 y_).wf = true) → ((Lit.int .i64 a2).wf = true) → ∃ k, laws_FnExactHeadCovers.f k a0_0 a0_1 a0_2 a0_3 l1_0 a2 = some true

theorem laws_szIntS.fits (l : List Int) (n : Int) (h0 : n ≤ 1048576) (h : (l.length : Int) ≤ n) : laws_szIntS.f l n = some (n - l.length) := by
  unfold laws_szIntS.f
  rw [wrap_in (by omega) (by omega), if_neg (by omega)]
theorem laws_szIntS.big (l : List Int) (n : Int) (h0 : n ≤ 1048576) (h : n < (l.length : Int)) (h1 : 0 ≤ n) (hl : l.length ≤ maxLen) : laws_szIntS.f l n = some (-1) := by
  unfold maxLen at hl
  unfold laws_szIntS.f
  rw [wrap_in (by omega) (by omega), if_pos (by omega)]

theorem laws_szPublicLog.fits (l : List Int) (n : Int) (h0 : n ≤ 1048576) (h : (l.length : Int) ≤ n) : laws_szPublicLog.f l n = some (n - l.length) := by
  unfold laws_szPublicLog.f
  rw [laws_szIntS.fits l n h0 h]
  simp only [Option.bind_some]
  rw [if_neg (by omega)]
theorem laws_szPublicLog.big (l : List Int) (n : Int) (h0 : n ≤ 1048576) (h : n < (l.length : Int)) (h1 : 0 ≤ n) (hl : l.length ≤ maxLen) : laws_szPublicLog.f l n = some (-1) := by
  unfold laws_szPublicLog.f
  rw [laws_szIntS.big l n h0 h h1 hl]
  rfl

theorem laws_toIntS.ev (l : List Int) (hl : l.length < 35184372088832) : Ev (fun k => laws_toIntS.f k l) l := by
  unfold laws_toIntS.f
  refine ev_pos (by omega) (ev_pos (by omega) ?_)
  refine ev_eq (fill (xs := l) (fun x => x) (fun k s i => laws_toIntS.l0 k l s i) (fun s hs => ?_) (fun i h s hs r ih => ?_) (List.replicate ((l.length : Int)).toNat 0) (by simp)) (by simp)
  · refine Ev.step (fun k => by rw [laws_toIntS.l0]) ?_
    exact ev_neg (by omega) (Ev.now _)
  · refine Ev.step (fun k => by rw [laws_toIntS.l0]) ?_
    refine ev_pos (by omega) (ev_pos (by omega) (ev_pos (by omega) ?_))
    rw [rd_get h, wrap_succ (by omega), Int.toNat_natCast]
    exact ih

theorem laws_toPublicLog.ev (l : List Int) (hl : l.length ≤ 1048576) : Ev (fun k => laws_toPublicLog.f k l) (l) := by
  unfold laws_toPublicLog.f
  exact Ev.bind (laws_toIntS.ev l (by omega)) (Ev.now _)

theorem laws_eqIntS.ev (l : List Int) (hl : l.length < 4611686018427387904) : Ev (fun k => laws_eqIntS.f k l l) true := by
  unfold laws_eqIntS.f
  refine ev_pos rfl ?_
  refine scan0 (xs := l) (fun k (_ : Unit) i => laws_eqIntS.l0 k l l i) (fun _ _ => true) (fun s => ?_) (fun i h s ih => ?_) ()
  · refine Ev.step (fun k => by rw [laws_eqIntS.l0]) ?_
    exact ev_neg (by omega) (Ev.now _)
  · refine Ev.step (fun k => by rw [laws_eqIntS.l0]) ?_
    refine ev_pos (by omega) (ev_pos (by omega) (ev_pos (by omega) (ev_pos rfl ?_)))
    rw [wrap_succ (by omega)]
    exact ih ()

theorem laws_eqPublicLog.ev (l : List Int) (hl : l.length < 4611686018427387904) : Ev (fun k => laws_eqPublicLog.f k l l) true := by
  unfold laws_eqPublicLog.f
  refine Ev.bind (laws_eqIntS.ev l hl) (ev_pos rfl ?_)
  exact Ev.now _

def modV (p q : Int) : Int := if 1 ≤ q ∧ q ≤ 1000000000000 then p % q else 0
theorem modV_range {p q : Int} (h : 1 ≤ q) : 0 ≤ modV p q ∧ modV p q < q := by
  unfold modV
  split
  · exact ⟨Int.emod_nonneg _ (by omega), Int.emod_lt_of_pos _ (by omega)⟩
  · omega
theorem tmod_range (p : Int) {q : Int} (h : 1 ≤ q) : -q < Int.tmod p q ∧ Int.tmod p q < q := by
  have h1 := Int.tmod_lt_of_pos p (show 0 < q by omega)
  have h2 := Int.lt_tmod_of_pos p (show 0 < q by omega)
  exact ⟨h2, h1⟩
theorem tmod_add (p : Int) {q : Int} (h : 1 ≤ q) : (Int.tmod p q + q) % q = p % q := by
  have e := Int.tmod_def p q
  have : Int.tmod p q + q = p + q * (1 - p.tdiv q) := by rw [e, Int.mul_sub]; omega
  rw [this, Int.add_mul_emod_self_left]

def hashStep (h v : Int) : Int := Int.tmod (wrap64 ((wrap64 ((wrap64 (h * 1000003)) + modV v 2147483647)) + 13)) 2147483647
def hashV (l : List Int) : Int := l.foldl hashStep 11

def keyedHashV (key : Int) (l : List Int) : Int := hashV ((key :: l) ++ [key])

def signV (p : Int) (m : List Int) : Int := if 1 ≤ p ∧ p ≤ 2147483646 then keyedHashV p ([139, (m.length : Int)] ++ m) else 0

def publicKeyV (a : Int) : Int := if 1 ≤ a ∧ a ≤ 2147483646 then a * 48271 % 2147483647 else 0
theorem publicKeyV_range (a : Int) : 0 ≤ publicKeyV a ∧ publicKeyV a ≤ 2147483646 := by
  unfold publicKeyV
  split <;> omega

def privateKeyV (a : Int) : Int := if 1 ≤ a ∧ a ≤ 2147483646 then a * 1899818559 % 2147483647 else 0
theorem privateKeyV_range (a : Int) : 0 ≤ privateKeyV a ∧ privateKeyV a ≤ 2147483646 := by
  unfold privateKeyV
  split <;> omega
theorem private_ne (a : Int) : privateKeyV a = 0 ↔ ¬ (1 ≤ a ∧ a ≤ 2147483646) := by
  unfold privateKeyV
  split <;> omega
theorem public_private (a : Int) (h : 1 ≤ a ∧ a ≤ 2147483646) : publicKeyV (privateKeyV a) = a := by
  have h1 : privateKeyV a = a * 1899818559 % 2147483647 := if_pos h
  have h2 : 1 ≤ privateKeyV a ∧ privateKeyV a ≤ 2147483646 := by omega
  unfold publicKeyV
  rw [if_pos h2, h1]
  omega
theorem private_public (a : Int) (h : 1 ≤ a ∧ a ≤ 2147483646) : privateKeyV (publicKeyV a) = a := by
  have h1 : publicKeyV a = a * 48271 % 2147483647 := if_pos h
  have h2 : 1 ≤ publicKeyV a ∧ publicKeyV a ≤ 2147483646 := by omega
  unfold privateKeyV
  rw [if_pos h2, h1]
  omega

def verifyV (p : Int) (m : List Int) (s : Int) : Bool := if privateKeyV p = 0 then false else signV (privateKeyV p) m == s

def checkHeadV (s r w g : Int) : Bool := verifyV w [271, s, r] g && decide (0 ≤ s ∧ s ≤ 60)

def rootV (l : List Int) : Int := l.foldl (fun h r => hashV [269, h, r]) 0

def coversV (s r w g : Int) (l : List Int) : Bool := if checkHeadV s r w g = true then (if (l.length : Int) ≥ s then rootV (l.take s.toNat) == r else false) else false

noncomputable def hasV (l : List Int) (a : Int) : Bool := dec (∃ i, i < l.length ∧ rd l (i : Int) = a)
theorem hasV_iff (l : List Int) (a : Int) : hasV l a = true ↔ a ∈ l := by
  unfold hasV
  rw [dec_iff]
  constructor
  · rintro ⟨i, h, e⟩
    rw [rd_get h] at e
    exact e ▸ List.getElem_mem h
  · intro h
    obtain ⟨i, hi, e⟩ := List.mem_iff_getElem.1 h
    exact ⟨i, hi, by rw [rd_get hi, e]⟩

noncomputable def headCoversV (s r w g : Int) (l : List Int) (a : Int) : Bool := if coversV s r w g l = true then hasV (l.take s.toNat) a else false
theorem covers_range {s r w g : Int} {l : List Int} (h : coversV s r w g l = true) : 0 ≤ s ∧ s ≤ 60 ∧ s ≤ l.length := by
  unfold coversV at h
  split at h
  · rename_i c
    split at h
    · rename_i d
      unfold checkHeadV at c
      simp only [Bool.and_eq_true, decide_eq_true_eq] at c
      omega
    · cases h
  · cases h

theorem spec_l6Power.ev : Ev (fun k => spec_l6Power.f k 48271 2147483645) 1899818559 :=
  Ev.of (k := 40) (fun k => spec_l6Power.mono _ _ k) (by decide +kernel)

theorem spec_l1In.val (a b c : Int) : spec_l1In.f a b c = some (decide (b ≤ a ∧ a ≤ c)) := by
  unfold spec_l1In.f
  by_cases h : a ≥ b
  · rw [if_pos h]; simp only [ge_iff_le] at h; simp [h]
  · rw [if_neg h]; simp only [ge_iff_le] at h; simp [h]

theorem spec_IsValidKey.val (a : Int) : spec_IsValidKey.f a = some (decide (1 ≤ a ∧ a ≤ 2147483646)) := by
  unfold spec_IsValidKey.f
  rw [spec_l1In.val]
  rfl

theorem spec_PublicKey.val (a : Int) : spec_PublicKey.f a = some (publicKeyV a) := by
  unfold spec_PublicKey.f publicKeyV
  rw [spec_IsValidKey.val]
  simp only [Option.bind_some, decide_eq_true_eq]
  by_cases h : 1 ≤ a ∧ a ≤ 2147483646
  · rw [if_pos h, if_pos h, wrap_in (by omega) (by omega), Int.tmod_eq_emod_of_nonneg (by omega)]
  · rw [if_neg h, if_neg h]

theorem spec_PrivateKey.ev (a : Int) : Ev (fun k => spec_PrivateKey.f k a) (privateKeyV a) := by
  unfold spec_PrivateKey.f
  rw [spec_l1In.val]
  simp only [Option.bind_some, decide_eq_true_eq]
  by_cases h : 1 ≤ a ∧ a ≤ 2147483646
  · have e : privateKeyV a = a * 1899818559 % 2147483647 := if_pos h
    refine ev_pos h (Ev.bind spec_l6Power.ev ?_)
    rw [wrap_in (by omega) (by omega), Int.tmod_eq_emod_of_nonneg (by omega), ← e]
    refine ev_bindc (spec_PublicKey.val _) (ev_pos (public_private a h) (Ev.now _))
  · refine ev_neg h ?_
    rw [(private_ne a).2 h]
    exact Ev.now _

theorem spec_Mod.val (p q : Int) : spec_Mod.f p q = some (modV p q) := by
  unfold spec_Mod.f modV
  rw [spec_l1In.val]
  simp only [Option.bind_some]
  by_cases h : 1 ≤ q ∧ q ≤ 1000000000000
  · have h1 := tmod_range p h.1
    have h2 := tmod_add p h.1
    rw [if_pos h, if_pos (by simp [h]), if_neg (by omega), wrap_in (by omega) (by omega), Int.tmod_eq_emod_of_nonneg (by omega), h2]
  · rw [if_neg h, if_neg (by simpa using h)]

theorem spec_Hash.ev (l : List Int) (hl : l.length < 4611686018427387904) : Ev (fun k => spec_Hash.f k l) (hashV l) := by
  unfold spec_Hash.f
  refine scan0 (xs := l) (fun k h i => spec_Hash.l0 k l h i) (fun ys h => ys.foldl hashStep h) (fun s => ?_) (fun i h s ih => ?_) 11
  · refine Ev.step (fun k => by rw [spec_Hash.l0]) ?_
    exact ev_neg (by omega) (Ev.now _)
  · refine Ev.step (fun k => by rw [spec_Hash.l0]) ?_
    refine ev_pos (by omega) (ev_pos (by omega) ?_)
    rw [rd_get h, spec_Mod.val, wrap_succ (by omega)]
    exact ih _

theorem spec_KeyedHash.ev (key : Int) (l : List Int) (hl : l.length < 17592186044400) : Ev (fun k => spec_KeyedHash.f k key l) (keyedHashV key l) := by
  unfold spec_KeyedHash.f keyedHashV
  simp only [Option.bind_some]
  refine ev_pos (by simp; omega) (ev_pos (by simp; omega) (Ev.bind (spec_Hash.ev _ (by simp; omega)) (Ev.now _)))

theorem spec_SignMessage.ev (p : Int) (m : List Int) (hm : m.length < 17592186044000) : Ev (fun k => spec_SignMessage.f k p m) (signV p m) := by
  unfold spec_SignMessage.f signV
  rw [spec_IsValidKey.val]
  simp only [Option.bind_some, decide_eq_true_eq]
  refine ev_ite (fun _ => ?_) (fun _ => Ev.now _)
  exact ev_pos (by simp; omega) (Ev.bind (spec_KeyedHash.ev _ _ (by simp; omega)) (Ev.now _))

theorem spec_VerifySignature.ev (p : Int) (m : List Int) (s : Int) (hm : m.length < 17592186044000) : Ev (fun k => spec_VerifySignature.f k p m s) (verifyV p m s) := by
  unfold spec_VerifySignature.f verifyV
  exact Ev.bind (spec_PrivateKey.ev p) (ev_ite (fun _ => Ev.now _) (fun _ => Ev.bind (spec_SignMessage.ev _ m hm) (Ev.now _)))

theorem spec_CheckHead.ev (s r w g : Int) : Ev (fun k => spec_CheckHead.f k s r w g) (checkHeadV s r w g) := by
  unfold spec_CheckHead.f checkHeadV
  refine ev_bindc rfl (Ev.bind (spec_VerifySignature.ev _ _ _ (by simp)) ?_)
  cases h : verifyV w [271, s, r] g
  · exact ev_neg (by simp) (Ev.now _)
  · refine ev_pos rfl (ev_const ?_)
    rw [spec_l1In.val]
    simp

theorem spec_RootOf.ev (l : List Int) (n : Int) (hl : l.length < 4611686018427387904) : Ev (fun k => spec_RootOf.f k l n) (rootV (l.take n.toNat)) := by
  unfold spec_RootOf.f
  have key : ∀ (d i : Nat), i + d = (l.take n.toNat).length → ∀ h, Ev (fun k => spec_RootOf.l0 k l n h (i : Int)) (((l.take n.toNat).drop i).foldl (fun h r => hashV [269, h, r]) h) := by
    intro d
    induction d with
    | zero =>
      intro i hi h
      have e : i = (l.take n.toNat).length := by omega
      rw [List.drop_of_length_le (by omega)]
      rw [List.length_take] at e
      refine Ev.step (fun k => by rw [spec_RootOf.l0]) ?_
      refine ev_both (fun h1 => ev_both (fun h2 => by omega) (fun _ => Ev.now _)) (fun _ => Ev.now _)
    | succ d ih =>
      intro i hi h
      have hi2 := hi
      rw [List.length_take] at hi2
      have hx : i < (l.take n.toNat).length := by omega
      rw [List.drop_eq_getElem_cons hx]
      refine Ev.step (fun k => by rw [spec_RootOf.l0]) ?_
      refine ev_pos (by omega) (ev_pos (by omega) (ev_pos (by omega) ?_))
      rw [rd_get (by omega), wrap_succ (by omega)]
      refine Ev.bind (spec_Hash.ev _ (by simp)) ?_
      have := ih (i + 1) (by omega) (hashV [269, h, l[i]])
      simpa using this
  have := key (l.take n.toNat).length 0 (by omega) 0
  simpa [rootV] using this

theorem spec_l30Covers.ev (s r w g : Int) (l : List Int) (hl : l.length < 4611686018427387904) : Ev (fun k => spec_l30Covers.f k s r w g l) (coversV s r w g l) := by
  unfold spec_l30Covers.f coversV
  refine Ev.bind (spec_CheckHead.ev s r w g) (ev_ite (fun _ => ev_ite (fun _ => ?_) (fun _ => Ev.now _)) (fun _ => Ev.now _))
  exact Ev.bind (spec_RootOf.ev l s hl) (Ev.now _)

theorem spec_Min.val (a b : Int) : spec_Min.f a b = some (min a b) := by
  unfold spec_Min.f
  split <;> (congr 1; omega)

theorem spec_Max.val (a b : Int) : spec_Max.f a b = some (max a b) := by
  unfold spec_Max.f
  split <;> (congr 1; omega)

theorem spec_l19Has.ev (l : List Int) (a : Int) (hl : l.length < 4611686018427387904) : Ev (fun k => spec_l19Has.f k l a) (hasV l a) := by
  unfold spec_l19Has.f hasV
  refine scan_any (n := l.length) (fun k i => spec_l19Has.l0 k l a i) (fun i => rd l (i : Int) = a) ?_ (fun i hi q r ih => ?_) (fun i hi q => ?_)
  · refine Ev.step (fun k => by rw [spec_l19Has.l0]) ?_
    exact ev_neg (by omega) (Ev.now _)
  · refine Ev.step (fun k => by rw [spec_l19Has.l0]) ?_
    rw [wrap_succ (by omega)]
    exact ev_pos (by omega) (ev_pos (by omega) (ev_neg q ih))
  · refine Ev.step (fun k => by rw [spec_l19Has.l0]) ?_
    exact ev_pos (by omega) (ev_pos (by omega) (ev_pos q (Ev.now _)))

theorem spec_HeadCovers.ev (s r w g : Int) (l : List Int) (a : Int) (hl : l.length < 4611686018427387904) : Ev (fun k => spec_HeadCovers.f k s r w g l a) (headCoversV s r w g l a) := by
  unfold spec_HeadCovers.f headCoversV
  refine Ev.bind (spec_l30Covers.ev s r w g l hl) (ev_ite (fun c => ?_) (fun _ => Ev.now _))
  have h := covers_range c
  refine ev_bindc (spec_Min.val _ _) (ev_bindc (spec_Max.val _ _) ?_)
  rw [show max 0 (min s (l.length : Int)) = s by omega]
  exact ev_pos (by omega) (ev_pos (by omega) (Ev.bind (spec_l19Has.ev _ _ (by rw [List.length_take]; omega)) (Ev.now _)))

theorem impl_power.evM : Ev (fun k => impl_power.f k 48271 2147483645 2147483647) 1899818559 :=
  Ev.of (k := 40) (fun k => impl_power.mono _ _ _ k) (by decide +kernel)

theorem impl_InRange.val (a b c : Int) : impl_InRange.f a b c = some (decide (b ≤ a ∧ a ≤ c)) := by
  unfold impl_InRange.f
  by_cases h : b ≤ a
  · rw [if_pos h]; simp [h]
  · rw [if_neg h]; simp [h]

theorem impl_IsValidKey.val (a : Int) : impl_IsValidKey.f a = some (decide (1 ≤ a ∧ a ≤ 2147483646)) := by
  unfold impl_IsValidKey.f
  rw [impl_InRange.val]
  rfl

theorem impl_PrivateKey.ev (a : Int) : Ev (fun k => impl_PrivateKey.f k a) (privateKeyV a) := by
  unfold impl_PrivateKey.f
  rw [impl_IsValidKey.val]
  simp only [Option.bind_some, decide_eq_true_eq]
  by_cases h : 1 ≤ a ∧ a ≤ 2147483646
  · have e : privateKeyV a = a * 1899818559 % 2147483647 := if_pos h
    refine ev_pos h (Ev.bind impl_power.evM ?_)
    rw [wrap_in (by omega) (by omega), Int.tmod_eq_emod_of_nonneg (by omega), ← e]
    exact Ev.now _
  · refine ev_neg h ?_
    rw [(private_ne a).2 h]
    exact Ev.now _

theorem impl_Mod.ev (p q : Int) : Ev (fun k => impl_Mod.f k p q) (modV p q) := by
  unfold impl_Mod.f modV
  by_cases h1 : q < 1
  · refine ev_pos h1 (Ev.step (fun k => by rw [impl_Mod.j0]) (ev_pos rfl ?_))
    rw [if_neg (show ¬ (1 ≤ q ∧ q ≤ 1000000000000) by omega)]
    exact Ev.now _
  · refine ev_neg h1 (Ev.step (fun k => by rw [impl_Mod.j0]) ?_)
    by_cases h2 : q > 1000000000000
    · refine ev_pos (by simpa using h2) ?_
      rw [if_neg (show ¬ (1 ≤ q ∧ q ≤ 1000000000000) by omega)]
      exact Ev.now _
    · refine ev_neg (by simpa using h2) (ev_neg (by omega) ?_)
      rw [if_pos (show 1 ≤ q ∧ q ≤ 1000000000000 by omega)]
      have r1 := tmod_range p (show 1 ≤ q by omega)
      have r2 := tmod_add p (show 1 ≤ q by omega)
      by_cases h3 : Int.tmod p q < 0
      · refine ev_pos h3 (ev_const ?_)
        rw [wrap_in (by omega) (by omega), ← r2, Int.emod_eq_of_lt (by omega) (by omega)]
      · refine ev_neg h3 (ev_const ?_)
        rw [← r2, Int.add_emod_right, Int.emod_eq_of_lt (by omega) (by omega)]

theorem impl_Hash.ev (l : List Int) (hl : l.length < 4611686018427387904) : Ev (fun k => impl_Hash.f k l) (hashV l) := by
  unfold impl_Hash.f
  refine scan0 (xs := l) (fun k h i => impl_Hash.l0 k h l l.length i) (fun ys h => ys.foldl hashStep h) (fun s => ?_) (fun i h s ih => ?_) 11
  · refine Ev.step (fun k => by rw [impl_Hash.l0]) ?_
    exact ev_neg (by omega) (Ev.now _)
  · refine Ev.step (fun k => by rw [impl_Hash.l0]) ?_
    refine ev_pos (by omega) (ev_pos (by omega) (ev_pos (by omega) ?_))
    rw [rd_get h, wrap_succ (by omega)]
    exact Ev.bind (impl_Mod.ev _ _) (ih _)

theorem impl_joined.ev (l : List Int) (ls : List (List Int)) (hls : ls.length < 4611686018427387904) (hl : l.length + (ls.flatten).length < 17592186044416) : Ev (fun k => impl_joined.f k l ls) (l ++ ls.flatten) := by
  unfold impl_joined.f
  simp only [Option.bind_some, List.nil_append, List.length_nil]
  refine ev_pos (by omega) ?_
  have key : ∀ (d i : Nat), i + d = ls.length → ∀ s : List Int, s.length + ((ls.drop i).flatten).length < 17592186044416 → Ev (fun k => impl_joined.l0 k s ls ls.length (i : Int)) (s ++ (ls.drop i).flatten) := by
    intro d
    induction d with
    | zero =>
      intro i hi s hs
      rw [List.drop_of_length_le (by omega)]
      refine Ev.step (fun k => by rw [impl_joined.l0]) ?_
      refine ev_neg (by omega) ?_
      simpa using Ev.now s
    | succ d ih =>
      intro i hi s hs
      have h : i < ls.length := by omega
      rw [List.drop_eq_getElem_cons h] at hs ⊢
      simp only [List.flatten_cons, List.length_append] at hs ⊢
      refine Ev.step (fun k => by rw [impl_joined.l0]) ?_
      refine ev_pos (by omega) (ev_pos (by omega) (ev_pos (by omega) ?_))
      simp only [rd_L1, getD_get h, wrap_succ (show i < 4611686018427387904 by omega)]
      refine ev_pos (by omega) ?_
      have := ih (i + 1) (by omega) (s ++ ls[i]) (by rw [List.length_append]; omega)
      rwa [List.append_assoc] at this
  exact key ls.length 0 (by omega) l hl

theorem impl_KeyedHash.ev (key : Int) (l : List Int) (hl : l.length < 17592186044400) : Ev (fun k => impl_KeyedHash.f k key l) (keyedHashV key l) := by
  unfold impl_KeyedHash.f keyedHashV
  refine Ev.bind (impl_joined.ev _ _ (by simp) (by simp; omega)) ?_
  simp only [List.flatten_cons, List.flatten_nil, List.append_nil]
  exact Ev.bind (impl_Hash.ev _ (by simp; omega)) (Ev.now _)

theorem impl_SignMessage.ev (p : Int) (m : List Int) (hm : m.length < 17592186044000) : Ev (fun k => impl_SignMessage.f k p m) (signV p m) := by
  unfold impl_SignMessage.f signV
  rw [impl_IsValidKey.val]
  simp only [Option.bind_some, decide_eq_true_eq]
  refine ev_ite (fun _ => ?_) (fun _ => Ev.now _)
  refine Ev.bind (impl_joined.ev _ _ (by simp) (by simp; omega)) ?_
  simp only [List.flatten_cons, List.flatten_nil, List.append_nil]
  exact Ev.bind (impl_KeyedHash.ev _ _ (by simp; omega)) (Ev.now _)

theorem impl_VerifySignature.ev (p : Int) (m : List Int) (s : Int) (hm : m.length < 17592186044000) : Ev (fun k => impl_VerifySignature.f k p m s) (verifyV p m s) := by
  unfold impl_VerifySignature.f verifyV
  exact Ev.bind (impl_PrivateKey.ev p) (ev_ite (fun _ => Ev.now _) (fun _ => Ev.bind (impl_SignMessage.ev _ m hm) (Ev.now _)))

theorem impl_CheckHead.ev (s r w g : Int) : Ev (fun k => impl_CheckHead.f k s r w g) (checkHeadV s r w g) := by
  unfold impl_CheckHead.f checkHeadV
  refine Ev.bind (impl_VerifySignature.ev _ _ _ (by simp)) ?_
  cases h : verifyV w [271, s, r] g
  · exact ev_neg (by simp) (Ev.now _)
  · refine ev_pos rfl (ev_const ?_)
    rw [impl_InRange.val]
    simp

theorem impl_RootOf.ev (l : List Int) (n : Int) (hl : l.length < 4611686018427387904) : Ev (fun k => impl_RootOf.f k l n) (rootV (l.take n.toNat)) := by
  unfold impl_RootOf.f
  have key : ∀ (d i : Nat), i + d = (l.take n.toNat).length → ∀ h, Ev (fun k => impl_RootOf.l0 k l n h (i : Int)) (((l.take n.toNat).drop i).foldl (fun h r => hashV [269, h, r]) h) := by
    intro d
    induction d with
    | zero =>
      intro i hi h
      have e : i = (l.take n.toNat).length := by omega
      rw [List.drop_of_length_le (by omega)]
      rw [List.length_take] at e
      refine Ev.step (fun k => by rw [impl_RootOf.l0]) ?_
      refine ev_neg ?_ (Ev.now _)
      unfold mn; split <;> omega
    | succ d ih =>
      intro i hi h
      have hi2 := hi
      rw [List.length_take] at hi2
      have hx : i < (l.take n.toNat).length := by omega
      rw [List.drop_eq_getElem_cons hx]
      refine Ev.step (fun k => by rw [impl_RootOf.l0]) ?_
      refine ev_pos (by unfold mn; split <;> omega) (ev_pos (by omega) (ev_pos (by omega) ?_))
      rw [rd_get (by omega), wrap_succ (by omega)]
      refine Ev.bind (impl_Hash.ev _ (by simp)) ?_
      have := ih (i + 1) (by omega) (hashV [269, h, l[i]])
      simpa using this
  have := key (l.take n.toNat).length 0 (by omega) 0
  simpa [rootV] using this

theorem impl_has.ev (l : List Int) (a : Int) (hl : l.length < 4611686018427387904) : Ev (fun k => impl_has.f k l a) (hasV l a) := by
  unfold impl_has.f hasV
  refine scan_any (n := l.length) (fun k i => impl_has.l0 k a l l.length i) (fun i => rd l (i : Int) = a) ?_ (fun i hi q r ih => ?_) (fun i hi q => ?_)
  · refine Ev.step (fun k => by rw [impl_has.l0]) ?_
    exact ev_neg (by omega) (Ev.now _)
  · refine Ev.step (fun k => by rw [impl_has.l0]) ?_
    rw [wrap_succ (by omega)]
    exact ev_pos (by omega) (ev_pos (by omega) (ev_pos (by omega) (ev_neg q ih)))
  · refine Ev.step (fun k => by rw [impl_has.l0]) ?_
    exact ev_pos (by omega) (ev_pos (by omega) (ev_pos (by omega) (ev_pos q (Ev.now _))))

theorem impl_HeadCovers.ev (s r w g : Int) (l : List Int) (a : Int) (hl : l.length < 4611686018427387904) : Ev (fun k => impl_HeadCovers.f k s r w g l a) (headCoversV s r w g l a) := by
  unfold impl_HeadCovers.f headCoversV coversV
  refine Ev.bind (impl_CheckHead.ev s r w g) ?_
  cases h1 : checkHeadV s r w g
  · simpa using Ev.now false
  · have h0 : 0 ≤ s := by
      unfold checkHeadV at h1
      simp only [Bool.and_eq_true, decide_eq_true_eq] at h1
      omega
    refine ev_pos rfl (ev_both (fun h2 => ?_) (fun h2 => ?_))
    · refine Ev.bind (impl_RootOf.ev l s hl) (ev_both (fun h3 => ?_) (fun h3 => ?_))
      · refine ev_pos h0 (ev_pos (by omega) (Ev.bind (impl_has.ev _ a (by rw [List.length_take]; omega)) ?_))
        simpa [h2, h3] using Ev.now _
      · simpa [h2, h3] using Ev.now false
    · simpa [h2] using Ev.now false

theorem FnExactHeadCovers : Claim := by
  intro s r w g l a _ _ _ _ ⟨hl, _⟩ _
  refine Ev.rounds (r := true) ?_
  unfold laws_FnExactHeadCovers.f
  by_cases hs : (l.length : Int) ≤ 1048576
  · refine ev_bindc (laws_szPublicLog.fits l _ (by omega) hs) (ev_neg (by omega) ?_)
    refine ev_bindc rfl (Ev.bind (laws_toPublicLog.ev l (by omega)) (Ev.bind (spec_HeadCovers.ev s r w g l a (by omega)) ?_))
    refine Ev.bind (laws_toPublicLog.ev l (by omega)) (ev_bindc rfl (Ev.bind (impl_HeadCovers.ev s r w g l a (by omega)) ?_))
    refine ev_neg (by simp) (Ev.bind (laws_toPublicLog.ev l (by omega)) ?_)
    exact Ev.bind (laws_eqPublicLog.ev l (by omega)) (ev_pos rfl (Ev.now _))
  · exact ev_bindc (laws_szPublicLog.big l _ (by omega) (by omega) (by omega) hl) (ev_pos (by omega) (Ev.now _))

end Go.Proofs.Ytjggdakbphjomaa.Pure
