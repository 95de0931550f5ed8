/- The program's SignHead returns what the reference's returns, for all arguments that the row lets in; no condition besides. Here: the plain side, over the printed functions. -/
import Derived.Test.YtanoaneoanpkkaaZFnExactSignHeadx6
import Derived.Test.YtanoaneoanpkkaaKitV
namespace Go.Proofs.Ytanoaneoanpkkaa.Pure
open Go.RowKit Go.Proofs.Ytanoaneoanpkkaa.ZFnExactSignHead Go.Proofs.YtanoaneoanpkkaaW.PrintWords Go.Proofs.YtanoaneoanpkkaaW.PrintLast Go.Proofs.YtanoaneoanpkkaaW.PrintMore Go.Proofs.Ytanoaneoanpkkaa.Kit
set_option linter.unusedVariables false
set_option linter.unusedSimpArgs false

/-- What is to be proved of the printed functions. -/
def Claim : Prop := ∀ (a0_0 : Int), ∀ (a0_1 : Int), ∀ (a0_2 : Int), ∀ (l1_0 : List Int), ((Lit.int .i64 a0_0).wf = true) → ((Lit.int .i64 a0_1).wf = true) → ((Lit.int .i64 a0_2).wf = true) → (l1_0.length ≤ maxLen ∧ ∀ y_ ∈ l1_0, (Lit.int .i64 y_).wf = true) → ∃ k, laws_FnExactSignHead.f k a0_0 a0_1 a0_2 l1_0 = some true

theorem laws_szIntS.fits (l : List Int) (n : Int) (h0 : n ≤ 1048576) (h : (l.length : Int) ≤ n) : laws_szIntS.f l n = some (n - l.length) := by
  unfold laws_szIntS.f
  rw [wrap_in (by omega) (by omega), if_neg (by omega)]
theorem laws_szIntS.big (l : List Int) (n : Int) (h0 : n ≤ 1048576) (h : n < (l.length : Int)) (h1 : 0 ≤ n) (hl : l.length ≤ maxLen) : laws_szIntS.f l n = some (-1) := by
  unfold maxLen at hl
  unfold laws_szIntS.f
  rw [wrap_in (by omega) (by omega), if_pos (by omega)]

theorem laws_szPublicLog.fits (l : List Int) (n : Int) (h0 : n ≤ 1048576) (h : (l.length : Int) ≤ n) : laws_szPublicLog.f l n = some (n - l.length) := by
  unfold laws_szPublicLog.f
  rw [laws_szIntS.fits l n h0 h]
  simp only [Option.bind_some]
  rw [if_neg (by omega)]
theorem laws_szPublicLog.big (l : List Int) (n : Int) (h0 : n ≤ 1048576) (h : n < (l.length : Int)) (h1 : 0 ≤ n) (hl : l.length ≤ maxLen) : laws_szPublicLog.f l n = some (-1) := by
  unfold laws_szPublicLog.f
  rw [laws_szIntS.big l n h0 h h1 hl]
  rfl

theorem laws_toIntS.ev (l : List Int) (hl : l.length < 35184372088832) : Ev (fun k => laws_toIntS.f k l) l := by
  unfold laws_toIntS.f
  refine ev_pos (by omega) (ev_pos (by omega) ?_)
  refine ev_eq (fill (xs := l) (fun x => x) (fun k s i => laws_toIntS.l0 k l s i) (fun s hs => ?_) (fun i h s hs r ih => ?_) (List.replicate ((l.length : Int)).toNat 0) (by simp)) (by simp)
  · refine Ev.step (fun k => by rw [laws_toIntS.l0]) ?_
    exact ev_neg (by omega) (Ev.now _)
  · refine Ev.step (fun k => by rw [laws_toIntS.l0]) ?_
    refine ev_pos (by omega) (ev_pos (by omega) (ev_pos (by omega) ?_))
    rw [rd_get h, wrap_succ (by omega), Int.toNat_natCast]
    exact ih

theorem laws_toPublicLog.ev (l : List Int) (hl : l.length ≤ 1048576) : Ev (fun k => laws_toPublicLog.f k l) (l) := by
  unfold laws_toPublicLog.f
  exact Ev.bind (laws_toIntS.ev l (by omega)) (Ev.now _)

theorem laws_eqIntS.ev (l : List Int) (hl : l.length < 4611686018427387904) : Ev (fun k => laws_eqIntS.f k l l) true := by
  unfold laws_eqIntS.f
  refine ev_pos rfl ?_
  refine scan0 (xs := l) (fun k (_ : Unit) i => laws_eqIntS.l0 k l l i) (fun _ _ => true) (fun s => ?_) (fun i h s ih => ?_) ()
  · refine Ev.step (fun k => by rw [laws_eqIntS.l0]) ?_
    exact ev_neg (by omega) (Ev.now _)
  · refine Ev.step (fun k => by rw [laws_eqIntS.l0]) ?_
    refine ev_pos (by omega) (ev_pos (by omega) (ev_pos (by omega) (ev_pos rfl ?_)))
    rw [wrap_succ (by omega)]
    exact ih ()

theorem laws_eqPublicLog.ev (l : List Int) (hl : l.length < 4611686018427387904) : Ev (fun k => laws_eqPublicLog.f k l l) true := by
  unfold laws_eqPublicLog.f
  refine Ev.bind (laws_eqIntS.ev l hl) (ev_pos rfl ?_)
  exact Ev.now _

def modV (p q : Int) : Int := if 1 ≤ q ∧ q ≤ 1000000000000 then p % q else 0
theorem modV_range {p q : Int} (h : 1 ≤ q) : 0 ≤ modV p q ∧ modV p q < q := by
  unfold modV
  split
  · exact ⟨Int.emod_nonneg _ (by omega), Int.emod_lt_of_pos _ (by omega)⟩
  · omega
theorem tmod_range (p : Int) {q : Int} (h : 1 ≤ q) : -q < Int.tmod p q ∧ Int.tmod p q < q := by
  have h1 := Int.tmod_lt_of_pos p (show 0 < q by omega)
  have h2 := Int.lt_tmod_of_pos p (show 0 < q by omega)
  exact ⟨h2, h1⟩
theorem tmod_add (p : Int) {q : Int} (h : 1 ≤ q) : (Int.tmod p q + q) % q = p % q := by
  have e := Int.tmod_def p q
  have : Int.tmod p q + q = p + q * (1 - p.tdiv q) := by rw [e, Int.mul_sub]; omega
  rw [this, Int.add_mul_emod_self_left]

def hashStep (h v : Int) : Int := Int.tmod (wrap64 ((wrap64 ((wrap64 (h * 1000003)) + modV v 2147483647)) + 13)) 2147483647
def hashV (l : List Int) : Int := l.foldl hashStep 11

def rootV (l : List Int) : Int := l.foldl (fun h r => hashV [269, h, r]) 0

def publicKeyV (a : Int) : Int := if 1 ≤ a ∧ a ≤ 2147483646 then a * 48271 % 2147483647 else 0
theorem publicKeyV_range (a : Int) : 0 ≤ publicKeyV a ∧ publicKeyV a ≤ 2147483646 := by
  unfold publicKeyV
  split <;> omega

def keyedHashV (key : Int) (l : List Int) : Int := hashV ((key :: l) ++ [key])

def signV (p : Int) (m : List Int) : Int := if 1 ≤ p ∧ p ≤ 2147483646 then keyedHashV p ([139, (m.length : Int)] ++ m) else 0

def signHeadV (p s r : Int) (l : List Int) : Int × Int × Int × Int × Int × Int × Int × Bool :=
  if (1 ≤ p ∧ p ≤ 2147483646) ∧ ¬ (l.length : Int) < s ∧ rootV (l.take s.toNat) = r then (p, (l.length : Int), rootV l, (l.length : Int), rootV l, publicKeyV p, signV p [271, (l.length : Int), rootV l], true) else (p, s, r, 0, 0, 0, 0, false)

theorem spec_l1In.val (a b c : Int) : spec_l1In.f a b c = some (decide (b ≤ a ∧ a ≤ c)) := by
  unfold spec_l1In.f
  by_cases h : a ≥ b
  · rw [if_pos h]; simp only [ge_iff_le] at h; simp [h]
  · rw [if_neg h]; simp only [ge_iff_le] at h; simp [h]

theorem spec_Mod.val (p q : Int) : spec_Mod.f p q = some (modV p q) := by
  unfold spec_Mod.f modV
  rw [spec_l1In.val]
  simp only [Option.bind_some]
  by_cases h : 1 ≤ q ∧ q ≤ 1000000000000
  · have h1 := tmod_range p h.1
    have h2 := tmod_add p h.1
    rw [if_pos h, if_pos (by simp [h]), if_neg (by omega), wrap_in (by omega) (by omega), Int.tmod_eq_emod_of_nonneg (by omega), h2]
  · rw [if_neg h, if_neg (by simpa using h)]

theorem spec_Hash.ev (l : List Int) (hl : l.length < 4611686018427387904) : Ev (fun k => spec_Hash.f k l) (hashV l) := by
  unfold spec_Hash.f
  refine scan0 (xs := l) (fun k h i => spec_Hash.l0 k l h i) (fun ys h => ys.foldl hashStep h) (fun s => ?_) (fun i h s ih => ?_) 11
  · refine Ev.step (fun k => by rw [spec_Hash.l0]) ?_
    exact ev_neg (by omega) (Ev.now _)
  · refine Ev.step (fun k => by rw [spec_Hash.l0]) ?_
    refine ev_pos (by omega) (ev_pos (by omega) ?_)
    rw [rd_get h, spec_Mod.val, wrap_succ (by omega)]
    exact ih _

theorem spec_RootOf.ev (l : List Int) (n : Int) (hl : l.length < 4611686018427387904) : Ev (fun k => spec_RootOf.f k l n) (rootV (l.take n.toNat)) := by
  unfold spec_RootOf.f
  have key : ∀ (d i : Nat), i + d = (l.take n.toNat).length → ∀ h, Ev (fun k => spec_RootOf.l0 k l n h (i : Int)) (((l.take n.toNat).drop i).foldl (fun h r => hashV [269, h, r]) h) := by
    intro d
    induction d with
    | zero =>
      intro i hi h
      have e : i = (l.take n.toNat).length := by omega
      rw [List.drop_of_length_le (by omega)]
      rw [List.length_take] at e
      refine Ev.step (fun k => by rw [spec_RootOf.l0]) ?_
      refine ev_both (fun h1 => ev_both (fun h2 => by omega) (fun _ => Ev.now _)) (fun _ => Ev.now _)
    | succ d ih =>
      intro i hi h
      have hi2 := hi
      rw [List.length_take] at hi2
      have hx : i < (l.take n.toNat).length := by omega
      rw [List.drop_eq_getElem_cons hx]
      refine Ev.step (fun k => by rw [spec_RootOf.l0]) ?_
      refine ev_pos (by omega) (ev_pos (by omega) (ev_pos (by omega) ?_))
      rw [rd_get (by omega), wrap_succ (by omega)]
      refine Ev.bind (spec_Hash.ev _ (by simp)) ?_
      have := ih (i + 1) (by omega) (hashV [269, h, l[i]])
      simpa using this
  have := key (l.take n.toNat).length 0 (by omega) 0
  simpa [rootV] using this

theorem spec_IsValidKey.val (a : Int) : spec_IsValidKey.f a = some (decide (1 ≤ a ∧ a ≤ 2147483646)) := by
  unfold spec_IsValidKey.f
  rw [spec_l1In.val]
  rfl

theorem spec_PublicKey.val (a : Int) : spec_PublicKey.f a = some (publicKeyV a) := by
  unfold spec_PublicKey.f publicKeyV
  rw [spec_IsValidKey.val]
  simp only [Option.bind_some, decide_eq_true_eq]
  by_cases h : 1 ≤ a ∧ a ≤ 2147483646
  · rw [if_pos h, if_pos h, wrap_in (by omega) (by omega), Int.tmod_eq_emod_of_nonneg (by omega)]
  · rw [if_neg h, if_neg h]

theorem spec_KeyedHash.ev (key : Int) (l : List Int) (hl : l.length < 17592186044400) : Ev (fun k => spec_KeyedHash.f k key l) (keyedHashV key l) := by
  unfold spec_KeyedHash.f keyedHashV
  simp only [Option.bind_some]
  refine ev_pos (by simp; omega) (ev_pos (by simp; omega) (Ev.bind (spec_Hash.ev _ (by simp; omega)) (Ev.now _)))

theorem spec_SignMessage.ev (p : Int) (m : List Int) (hm : m.length < 17592186044000) : Ev (fun k => spec_SignMessage.f k p m) (signV p m) := by
  unfold spec_SignMessage.f signV
  rw [spec_IsValidKey.val]
  simp only [Option.bind_some, decide_eq_true_eq]
  refine ev_ite (fun _ => ?_) (fun _ => Ev.now _)
  exact ev_pos (by simp; omega) (Ev.bind (spec_KeyedHash.ev _ _ (by simp; omega)) (Ev.now _))

theorem spec_SignHead.ev (p s r : Int) (l : List Int) (hl : l.length < 4611686018427387904) : Ev (fun k => spec_SignHead.f k p s r l) (signHeadV p s r l) := by
  have no : ∀ (h : ¬ ((1 ≤ p ∧ p ≤ 2147483646) ∧ ¬ (l.length : Int) < s ∧ rootV (l.take s.toNat) = r)), Ev (fun k => spec_SignHead.j0 k (l.length : Int) true p s r l) (signHeadV p s r l) := by
    intro h
    unfold signHeadV
    rw [if_neg h]
    refine Ev.step (fun k => by rw [spec_SignHead.j0]) ?_
    exact ev_pos rfl (Ev.now _)
  unfold spec_SignHead.f
  refine ev_bindc (spec_IsValidKey.val p) ?_
  by_cases h1 : 1 ≤ p ∧ p ≤ 2147483646
  · refine ev_pos (by simpa using h1) ?_
    by_cases h2 : (l.length : Int) < s
    · exact ev_pos h2 (no (fun h => h.2.1 h2))
    · refine ev_neg h2 (Ev.bind (spec_RootOf.ev l s hl) ?_)
      by_cases h3 : rootV (l.take s.toNat) = r
      · rw [h3, bne_self_eq_false]
        unfold signHeadV
        rw [if_pos ⟨h1, h2, h3⟩]
        refine Ev.step (fun k => by rw [spec_SignHead.j0]) ?_
        refine ev_neg (by simp) ?_
        have e := spec_RootOf.ev l (l.length : Int) hl
        rw [Int.toNat_natCast, List.take_length] at e
        refine Ev.bind e (ev_bindc (spec_PublicKey.val p) (ev_bindc rfl (Ev.bind (spec_SignMessage.ev _ _ (by simp)) (Ev.now _))))
      · rw [bne_iff_ne.2 h3]
        exact no (fun h => h3 h.2.2)
  · exact ev_neg (by simpa using h1) (no (fun h => h1 h.1))

theorem impl_Mod.ev (p q : Int) : Ev (fun k => impl_Mod.f k p q) (modV p q) := by
  unfold impl_Mod.f modV
  by_cases h1 : q < 1
  · refine ev_pos h1 (Ev.step (fun k => by rw [impl_Mod.j0]) (ev_pos rfl ?_))
    rw [if_neg (show ¬ (1 ≤ q ∧ q ≤ 1000000000000) by omega)]
    exact Ev.now _
  · refine ev_neg h1 (Ev.step (fun k => by rw [impl_Mod.j0]) ?_)
    by_cases h2 : q > 1000000000000
    · refine ev_pos (by simpa using h2) ?_
      rw [if_neg (show ¬ (1 ≤ q ∧ q ≤ 1000000000000) by omega)]
      exact Ev.now _
    · refine ev_neg (by simpa using h2) (ev_neg (by omega) ?_)
      rw [if_pos (show 1 ≤ q ∧ q ≤ 1000000000000 by omega)]
      have r1 := tmod_range p (show 1 ≤ q by omega)
      have r2 := tmod_add p (show 1 ≤ q by omega)
      by_cases h3 : Int.tmod p q < 0
      · refine ev_pos h3 (ev_const ?_)
        rw [wrap_in (by omega) (by omega), ← r2, Int.emod_eq_of_lt (by omega) (by omega)]
      · refine ev_neg h3 (ev_const ?_)
        rw [← r2, Int.add_emod_right, Int.emod_eq_of_lt (by omega) (by omega)]

theorem impl_Hash.ev (l : List Int) (hl : l.length < 4611686018427387904) : Ev (fun k => impl_Hash.f k l) (hashV l) := by
  unfold impl_Hash.f
  refine scan0 (xs := l) (fun k h i => impl_Hash.l0 k h l l.length i) (fun ys h => ys.foldl hashStep h) (fun s => ?_) (fun i h s ih => ?_) 11
  · refine Ev.step (fun k => by rw [impl_Hash.l0]) ?_
    exact ev_neg (by omega) (Ev.now _)
  · refine Ev.step (fun k => by rw [impl_Hash.l0]) ?_
    refine ev_pos (by omega) (ev_pos (by omega) (ev_pos (by omega) ?_))
    rw [rd_get h, wrap_succ (by omega)]
    exact Ev.bind (impl_Mod.ev _ _) (ih _)

theorem impl_RootOf.ev (l : List Int) (n : Int) (hl : l.length < 4611686018427387904) : Ev (fun k => impl_RootOf.f k l n) (rootV (l.take n.toNat)) := by
  unfold impl_RootOf.f
  have key : ∀ (d i : Nat), i + d = (l.take n.toNat).length → ∀ h, Ev (fun k => impl_RootOf.l0 k l n h (i : Int)) (((l.take n.toNat).drop i).foldl (fun h r => hashV [269, h, r]) h) := by
    intro d
    induction d with
    | zero =>
      intro i hi h
      have e : i = (l.take n.toNat).length := by omega
      rw [List.drop_of_length_le (by omega)]
      rw [List.length_take] at e
      refine Ev.step (fun k => by rw [impl_RootOf.l0]) ?_
      refine ev_neg ?_ (Ev.now _)
      unfold mn; split <;> omega
    | succ d ih =>
      intro i hi h
      have hi2 := hi
      rw [List.length_take] at hi2
      have hx : i < (l.take n.toNat).length := by omega
      rw [List.drop_eq_getElem_cons hx]
      refine Ev.step (fun k => by rw [impl_RootOf.l0]) ?_
      refine ev_pos (by unfold mn; split <;> omega) (ev_pos (by omega) (ev_pos (by omega) ?_))
      rw [rd_get (by omega), wrap_succ (by omega)]
      refine Ev.bind (impl_Hash.ev _ (by simp)) ?_
      have := ih (i + 1) (by omega) (hashV [269, h, l[i]])
      simpa using this
  have := key (l.take n.toNat).length 0 (by omega) 0
  simpa [rootV] using this

theorem impl_InRange.val (a b c : Int) : impl_InRange.f a b c = some (decide (b ≤ a ∧ a ≤ c)) := by
  unfold impl_InRange.f
  by_cases h : b ≤ a
  · rw [if_pos h]; simp [h]
  · rw [if_neg h]; simp [h]

theorem impl_IsValidKey.val (a : Int) : impl_IsValidKey.f a = some (decide (1 ≤ a ∧ a ≤ 2147483646)) := by
  unfold impl_IsValidKey.f
  rw [impl_InRange.val]
  rfl

theorem impl_PublicKey.val (a : Int) : impl_PublicKey.f a = some (publicKeyV a) := by
  unfold impl_PublicKey.f publicKeyV
  rw [impl_IsValidKey.val]
  simp only [Option.bind_some, decide_eq_true_eq]
  by_cases h : 1 ≤ a ∧ a ≤ 2147483646
  · rw [if_pos h, if_pos h, wrap_in (by omega) (by omega), Int.tmod_eq_emod_of_nonneg (by omega)]
  · rw [if_neg h, if_neg h]

theorem impl_joined.ev (l : List Int) (ls : List (List Int)) (hls : ls.length < 4611686018427387904) (hl : l.length + (ls.flatten).length < 17592186044416) : Ev (fun k => impl_joined.f k l ls) (l ++ ls.flatten) := by
  unfold impl_joined.f
  simp only [Option.bind_some, List.nil_append, List.length_nil]
  refine ev_pos (by omega) ?_
  have key : ∀ (d i : Nat), i + d = ls.length → ∀ s : List Int, s.length + ((ls.drop i).flatten).length < 17592186044416 → Ev (fun k => impl_joined.l0 k s ls ls.length (i : Int)) (s ++ (ls.drop i).flatten) := by
    intro d
    induction d with
    | zero =>
      intro i hi s hs
      rw [List.drop_of_length_le (by omega)]
      refine Ev.step (fun k => by rw [impl_joined.l0]) ?_
      refine ev_neg (by omega) ?_
      simpa using Ev.now s
    | succ d ih =>
      intro i hi s hs
      have h : i < ls.length := by omega
      rw [List.drop_eq_getElem_cons h] at hs ⊢
      simp only [List.flatten_cons, List.length_append] at hs ⊢
      refine Ev.step (fun k => by rw [impl_joined.l0]) ?_
      refine ev_pos (by omega) (ev_pos (by omega) (ev_pos (by omega) ?_))
      simp only [rd_L1, getD_get h, wrap_succ (show i < 4611686018427387904 by omega)]
      refine ev_pos (by omega) ?_
      have := ih (i + 1) (by omega) (s ++ ls[i]) (by rw [List.length_append]; omega)
      rwa [List.append_assoc] at this
  exact key ls.length 0 (by omega) l hl

theorem impl_KeyedHash.ev (key : Int) (l : List Int) (hl : l.length < 17592186044400) : Ev (fun k => impl_KeyedHash.f k key l) (keyedHashV key l) := by
  unfold impl_KeyedHash.f keyedHashV
  refine Ev.bind (impl_joined.ev _ _ (by simp) (by simp; omega)) ?_
  simp only [List.flatten_cons, List.flatten_nil, List.append_nil]
  exact Ev.bind (impl_Hash.ev _ (by simp; omega)) (Ev.now _)

theorem impl_SignMessage.ev (p : Int) (m : List Int) (hm : m.length < 17592186044000) : Ev (fun k => impl_SignMessage.f k p m) (signV p m) := by
  unfold impl_SignMessage.f signV
  rw [impl_IsValidKey.val]
  simp only [Option.bind_some, decide_eq_true_eq]
  refine ev_ite (fun _ => ?_) (fun _ => Ev.now _)
  refine Ev.bind (impl_joined.ev _ _ (by simp) (by simp; omega)) ?_
  simp only [List.flatten_cons, List.flatten_nil, List.append_nil]
  exact Ev.bind (impl_KeyedHash.ev _ _ (by simp; omega)) (Ev.now _)

theorem impl_SignHead.ev (p s r : Int) (l : List Int) (hl : l.length < 4611686018427387904) : Ev (fun k => impl_SignHead.f k p s r l) (signHeadV p s r l) := by
  have no : ∀ (h : ¬ ((1 ≤ p ∧ p ≤ 2147483646) ∧ ¬ (l.length : Int) < s ∧ rootV (l.take s.toNat) = r)), Ev (fun k => impl_SignHead.j0 k true p s r l) (signHeadV p s r l) := by
    intro h
    unfold signHeadV
    rw [if_neg h]
    refine Ev.step (fun k => by rw [impl_SignHead.j0]) ?_
    exact ev_pos rfl (Ev.now _)
  unfold impl_SignHead.f
  refine ev_bindc (impl_IsValidKey.val p) ?_
  by_cases h1 : 1 ≤ p ∧ p ≤ 2147483646
  · refine ev_pos (by simpa using h1) ?_
    by_cases h2 : (l.length : Int) < s
    · exact ev_pos h2 (no (fun h => h.2.1 h2))
    · refine ev_neg h2 (Ev.bind (impl_RootOf.ev l s hl) ?_)
      by_cases h3 : rootV (l.take s.toNat) = r
      · rw [h3, bne_self_eq_false]
        unfold signHeadV
        rw [if_pos ⟨h1, h2, h3⟩]
        refine Ev.step (fun k => by rw [impl_SignHead.j0]) ?_
        refine ev_neg (by simp) ?_
        have e := impl_RootOf.ev l (l.length : Int) hl
        rw [Int.toNat_natCast, List.take_length] at e
        refine Ev.bind e (ev_bindc (impl_PublicKey.val p) (Ev.bind (impl_SignMessage.ev _ _ (by simp)) (Ev.now _)))
      · rw [bne_iff_ne.2 h3]
        exact no (fun h => h3 h.2.2)
  · exact ev_neg (by simpa using h1) (no (fun h => h1 h.1))

theorem FnExactSignHead : Claim := by
  intro p s r l _ _ _ ⟨hl, _⟩
  refine Ev.rounds (r := true) ?_
  unfold laws_FnExactSignHead.f
  by_cases hs : (l.length : Int) ≤ 1048576
  · refine ev_bindc (laws_szPublicLog.fits l _ (by omega) hs) (ev_neg (by omega) ?_)
    generalize hv : signHeadV p s r l = v
    refine ev_bindc rfl (Ev.bind (laws_toPublicLog.ev l (by omega)) (Ev.bind (ev_eq (spec_SignHead.ev p s r l (by omega)) hv) ?_))
    refine Ev.bind (laws_toPublicLog.ev l (by omega)) (ev_bindc rfl (Ev.bind (ev_eq (impl_SignHead.ev p s r l (by omega)) hv) ?_))
    refine ev_bindc (a := true) (by simp [laws_eqWitness.f]) (ev_pos rfl ?_)
    refine ev_bindc (a := true) (by simp [laws_eqSignedHead.f]) (ev_pos rfl ?_)
    refine Ev.step (fun k => by rw [laws_FnExactSignHead.j0]) ?_
    refine ev_neg (by simp) ?_
    refine Ev.bind (laws_toPublicLog.ev l (by omega)) ?_
    exact Ev.bind (laws_eqPublicLog.ev l (by omega)) (ev_pos rfl (Ev.now _))
  · exact ev_bindc (laws_szPublicLog.big l _ (by omega) (by omega) (by omega) hl) (ev_pos (by omega) (Ev.now _))

end Go.Proofs.Ytanoaneoanpkkaa.Pure
