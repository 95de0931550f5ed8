/- The law FnGrants answers true, for all arguments that the row lets in; no condition besides. Here: the plain side, over the printed functions. -/
import Derived.Test.YtjggdakbphjomaaZFnGrantsx9
import Derived.Test.YtjggdakbphjomaaKitV
namespace Go.Proofs.Ytjggdakbphjomaa.Pure
open Go.RowKit Go.Proofs.Ytjggdakbphjomaa.ZFnGrants Go.Proofs.YtjggdakbphjomaaW.PrintWords Go.Proofs.YtjggdakbphjomaaW.PrintLast Go.Proofs.YtjggdakbphjomaaW.PrintMore Go.Proofs.Ytjggdakbphjomaa.Kit
set_option linter.unusedVariables false
set_option linter.unusedSimpArgs false

/-- What is to be proved of the printed functions. -/
def Claim : Prop := ∀ (l0 : List Int), (l0.length ≤ maxLen ∧ ∀ y_ ∈ l0, (Lit.int .u8 y_).wf = true) → ∃ k, laws_FnGrants.f k l0 = some true

theorem laws_big.val (l : List Int) : laws_big.f l = some (decide ((l.length : Int) > 1048576)) := rfl

theorem i64_and255 (n : Int) : Go.bits .and .i64 n 255 = n % 256 := by
  have h255 : (BitVec.ofInt 64 255).toNat = 2 ^ 8 - 1 := by decide
  have key : (BitVec.ofInt 64 n &&& BitVec.ofInt 64 255).toNat = (n % ((2 ^ 64 : Nat) : Int)).toNat % 2 ^ 8 := by
    rw [BitVec.toNat_and, BitVec.toNat_ofInt, h255, Nat.and_two_pow_sub_one_eq_mod]
  show IntKind.i64.wrap ((BitVec.ofInt 64 n &&& BitVec.ofInt 64 255).toNat : Nat) = n % 256
  rw [key, IntKind.wrap_i64]
  omega

theorem spec_l1Byte.draw (b : List Int) (p h : Int) (hb : b.length ≤ 1048576) (hp : 0 ≤ p) : ∃ x q g, spec_l1Byte.f b p h = some (x, q, g) ∧ 0 ≤ x ∧ x ≤ 255 ∧ 0 ≤ q := by
  unfold spec_l1Byte.f
  have r : ∀ n : Int, 0 ≤ n % 256 ∧ n % 256 ≤ 255 := fun n => by omega
  by_cases c : p < (b.length : Int)
  · rw [if_pos c, if_pos hp, i64_and255]
    exact ⟨_, _, _, rfl, (r _).1, (r _).2, by rw [wrap_in (by omega) (by omega)]; omega⟩
  · rw [if_neg c, i64_and255]
    exact ⟨_, _, _, rfl, (r _).1, (r _).2, hp⟩

theorem spec_l1Below.draw (b : List Int) (p h n : Int) (hb : b.length ≤ 1048576) (hp : 0 ≤ p) (hn : n ≤ 256) : ∃ x q g, spec_l1Below.f b p h n = some (x, q, g) ∧ 0 ≤ x ∧ (0 < n → x < n) ∧ 0 ≤ q := by
  unfold spec_l1Below.f
  by_cases c : n ≤ 0
  · rw [if_pos c]
    exact ⟨_, _, _, rfl, by omega, fun h => by omega, hp⟩
  · rw [if_neg c, if_pos hn]
    obtain ⟨x, q, g, e, x0, x1, q0⟩ := spec_l1Byte.draw b p h hb hp
    rw [e]
    refine ⟨Int.tmod x n, q, g, ?_, Int.tmod_nonneg n x0, fun h => Int.tmod_lt_of_pos x h, q0⟩
    simp only [Option.bind_some]
    rw [if_neg (by omega)]

theorem spec_l1Once.draw (b : List Int) (p h n : Int) (hb : b.length ≤ 1048576) (hp : 0 ≤ p) (hn : n ≤ 256) : ∃ x q g, spec_l1Once.f b p h n = some (x, q, g) ∧ 0 ≤ q := by
  unfold spec_l1Once.f
  obtain ⟨x, q, g, e, _, _, q0⟩ := spec_l1Below.draw b p h n hb hp hn
  rw [e]
  exact ⟨_, _, _, rfl, q0⟩

theorem spec_l1Int.draw (b : List Int) (p h : Int) (l : List Int) (hb : b.length ≤ 1048576) (hp : 0 ≤ p) (h0 : 0 < l.length) (hn : l.length ≤ 256) : ∃ x q g, spec_l1Int.f b p h l = some (x, q, g) ∧ x ∈ l ∧ 0 ≤ q := by
  unfold spec_l1Int.f
  obtain ⟨x, q, g, e, x0, x1, q0⟩ := spec_l1Below.draw b p h (l.length : Int) hb hp (by omega)
  rw [e]
  have x2 := x1 (by omega)
  simp only [Option.bind_some]
  rw [if_pos x0, if_pos x2]
  refine ⟨_, _, _, rfl, ?_, q0⟩
  have := rd_get (xs := l) (i := x.toNat) (by omega)
  rw [Int.toNat_of_nonneg x0] at this
  rw [this]
  exact List.getElem_mem _

def publicKeyV (a : Int) : Int := if 1 ≤ a ∧ a ≤ 2147483646 then a * 48271 % 2147483647 else 0
theorem publicKeyV_range (a : Int) : 0 ≤ publicKeyV a ∧ publicKeyV a ≤ 2147483646 := by
  unfold publicKeyV
  split <;> omega

theorem spec_l1In.val (a b c : Int) : spec_l1In.f a b c = some (decide (b ≤ a ∧ a ≤ c)) := by
  unfold spec_l1In.f
  by_cases h : a ≥ b
  · rw [if_pos h]; simp only [ge_iff_le] at h; simp [h]
  · rw [if_neg h]; simp only [ge_iff_le] at h; simp [h]

theorem spec_IsValidKey.val (a : Int) : spec_IsValidKey.f a = some (decide (1 ≤ a ∧ a ≤ 2147483646)) := by
  unfold spec_IsValidKey.f
  rw [spec_l1In.val]
  rfl

theorem spec_PublicKey.val (a : Int) : spec_PublicKey.f a = some (publicKeyV a) := by
  unfold spec_PublicKey.f publicKeyV
  rw [spec_IsValidKey.val]
  simp only [Option.bind_some, decide_eq_true_eq]
  by_cases h : 1 ≤ a ∧ a ≤ 2147483646
  · rw [if_pos h, if_pos h, wrap_in (by omega) (by omega), Int.tmod_eq_emod_of_nonneg (by omega)]
  · rw [if_neg h, if_neg h]

def modV (p q : Int) : Int := if 1 ≤ q ∧ q ≤ 1000000000000 then p % q else 0
theorem modV_range {p q : Int} (h : 1 ≤ q) : 0 ≤ modV p q ∧ modV p q < q := by
  unfold modV
  split
  · exact ⟨Int.emod_nonneg _ (by omega), Int.emod_lt_of_pos _ (by omega)⟩
  · omega
theorem tmod_range (p : Int) {q : Int} (h : 1 ≤ q) : -q < Int.tmod p q ∧ Int.tmod p q < q := by
  have h1 := Int.tmod_lt_of_pos p (show 0 < q by omega)
  have h2 := Int.lt_tmod_of_pos p (show 0 < q by omega)
  exact ⟨h2, h1⟩
theorem tmod_add (p : Int) {q : Int} (h : 1 ≤ q) : (Int.tmod p q + q) % q = p % q := by
  have e := Int.tmod_def p q
  have : Int.tmod p q + q = p + q * (1 - p.tdiv q) := by rw [e, Int.mul_sub]; omega
  rw [this, Int.add_mul_emod_self_left]

def hashStep (h v : Int) : Int := Int.tmod (wrap64 ((wrap64 ((wrap64 (h * 1000003)) + modV v 2147483647)) + 13)) 2147483647
def hashV (l : List Int) : Int := l.foldl hashStep 11

def keyedHashV (key : Int) (l : List Int) : Int := hashV ((key :: l) ++ [key])

def signV (p : Int) (m : List Int) : Int := if 1 ≤ p ∧ p ≤ 2147483646 then keyedHashV p ([139, (m.length : Int)] ++ m) else 0

def privateKeyV (a : Int) : Int := if 1 ≤ a ∧ a ≤ 2147483646 then a * 1899818559 % 2147483647 else 0
theorem privateKeyV_range (a : Int) : 0 ≤ privateKeyV a ∧ privateKeyV a ≤ 2147483646 := by
  unfold privateKeyV
  split <;> omega
theorem private_ne (a : Int) : privateKeyV a = 0 ↔ ¬ (1 ≤ a ∧ a ≤ 2147483646) := by
  unfold privateKeyV
  split <;> omega
theorem public_private (a : Int) (h : 1 ≤ a ∧ a ≤ 2147483646) : publicKeyV (privateKeyV a) = a := by
  have h1 : privateKeyV a = a * 1899818559 % 2147483647 := if_pos h
  have h2 : 1 ≤ privateKeyV a ∧ privateKeyV a ≤ 2147483646 := by omega
  unfold publicKeyV
  rw [if_pos h2, h1]
  omega
theorem private_public (a : Int) (h : 1 ≤ a ∧ a ≤ 2147483646) : privateKeyV (publicKeyV a) = a := by
  have h1 : publicKeyV a = a * 48271 % 2147483647 := if_pos h
  have h2 : 1 ≤ publicKeyV a ∧ publicKeyV a ≤ 2147483646 := by omega
  unfold privateKeyV
  rw [if_pos h2, h1]
  omega

def verifyV (p : Int) (m : List Int) (s : Int) : Bool := if privateKeyV p = 0 then false else signV (privateKeyV p) m == s

def isGrantV (a b c d e f : Int) : Bool := if privateKeyV a = 0 then false else if privateKeyV b = 0 then false else if a = b then false else if (1 ≤ c ∧ c ≤ 7) then (if (0 ≤ d ∧ d ≤ 1000000) then (if (0 ≤ e ∧ e ≤ 5) then verifyV a [263, a, b, c, d, e] f else false) else false) else false

def makeGrantV (p t s u d : Int) : Int × Int × Int × Int × Int × Int × Bool := if isGrantV (publicKeyV p) t s u d (signV p [263, publicKeyV p, t, s, u, d]) = true then (publicKeyV p, t, s, u, d, signV p [263, publicKeyV p, t, s, u, d], true) else (0, 0, 0, 0, 0, 0, false)

theorem spec_l6Power.ev : Ev (fun k => spec_l6Power.f k 48271 2147483645) 1899818559 :=
  Ev.of (k := 40) (fun k => spec_l6Power.mono _ _ k) (by decide +kernel)

theorem spec_PrivateKey.ev (a : Int) : Ev (fun k => spec_PrivateKey.f k a) (privateKeyV a) := by
  unfold spec_PrivateKey.f
  rw [spec_l1In.val]
  simp only [Option.bind_some, decide_eq_true_eq]
  by_cases h : 1 ≤ a ∧ a ≤ 2147483646
  · have e : privateKeyV a = a * 1899818559 % 2147483647 := if_pos h
    refine ev_pos h (Ev.bind spec_l6Power.ev ?_)
    rw [wrap_in (by omega) (by omega), Int.tmod_eq_emod_of_nonneg (by omega), ← e]
    refine ev_bindc (spec_PublicKey.val _) (ev_pos (public_private a h) (Ev.now _))
  · refine ev_neg h ?_
    rw [(private_ne a).2 h]
    exact Ev.now _

theorem spec_Mod.val (p q : Int) : spec_Mod.f p q = some (modV p q) := by
  unfold spec_Mod.f modV
  rw [spec_l1In.val]
  simp only [Option.bind_some]
  by_cases h : 1 ≤ q ∧ q ≤ 1000000000000
  · have h1 := tmod_range p h.1
    have h2 := tmod_add p h.1
    rw [if_pos h, if_pos (by simp [h]), if_neg (by omega), wrap_in (by omega) (by omega), Int.tmod_eq_emod_of_nonneg (by omega), h2]
  · rw [if_neg h, if_neg (by simpa using h)]

theorem spec_Hash.ev (l : List Int) (hl : l.length < 4611686018427387904) : Ev (fun k => spec_Hash.f k l) (hashV l) := by
  unfold spec_Hash.f
  refine scan0 (xs := l) (fun k h i => spec_Hash.l0 k l h i) (fun ys h => ys.foldl hashStep h) (fun s => ?_) (fun i h s ih => ?_) 11
  · refine Ev.step (fun k => by rw [spec_Hash.l0]) ?_
    exact ev_neg (by omega) (Ev.now _)
  · refine Ev.step (fun k => by rw [spec_Hash.l0]) ?_
    refine ev_pos (by omega) (ev_pos (by omega) ?_)
    rw [rd_get h, spec_Mod.val, wrap_succ (by omega)]
    exact ih _

theorem spec_KeyedHash.ev (key : Int) (l : List Int) (hl : l.length < 17592186044400) : Ev (fun k => spec_KeyedHash.f k key l) (keyedHashV key l) := by
  unfold spec_KeyedHash.f keyedHashV
  simp only [Option.bind_some]
  refine ev_pos (by simp; omega) (ev_pos (by simp; omega) (Ev.bind (spec_Hash.ev _ (by simp; omega)) (Ev.now _)))

theorem spec_SignMessage.ev (p : Int) (m : List Int) (hm : m.length < 17592186044000) : Ev (fun k => spec_SignMessage.f k p m) (signV p m) := by
  unfold spec_SignMessage.f signV
  rw [spec_IsValidKey.val]
  simp only [Option.bind_some, decide_eq_true_eq]
  refine ev_ite (fun _ => ?_) (fun _ => Ev.now _)
  exact ev_pos (by simp; omega) (Ev.bind (spec_KeyedHash.ev _ _ (by simp; omega)) (Ev.now _))

theorem spec_VerifySignature.ev (p : Int) (m : List Int) (s : Int) (hm : m.length < 17592186044000) : Ev (fun k => spec_VerifySignature.f k p m s) (verifyV p m s) := by
  unfold spec_VerifySignature.f verifyV
  exact Ev.bind (spec_PrivateKey.ev p) (ev_ite (fun _ => Ev.now _) (fun _ => Ev.bind (spec_SignMessage.ev _ m hm) (Ev.now _)))

theorem spec_IsGrant.ev (a b c d e f : Int) : Ev (fun k => spec_IsGrant.f k a b c d e f) (isGrantV a b c d e f) := by
  unfold spec_IsGrant.f isGrantV
  simp only [spec_l1In.val, Option.bind_some, decide_eq_true_eq]
  refine Ev.bind (spec_PrivateKey.ev a) (ev_ite (fun _ => Ev.now _) (fun _ => ?_))
  refine Ev.bind (spec_PrivateKey.ev b) (ev_ite (fun _ => Ev.now _) (fun _ => ?_))
  refine ev_ite (fun _ => Ev.now _) (fun _ => ev_ite (fun _ => ev_ite (fun _ => ev_ite (fun _ => ?_) (fun _ => Ev.now _)) (fun _ => Ev.now _)) (fun _ => Ev.now _))
  exact ev_bindc rfl (Ev.bind (spec_VerifySignature.ev _ _ _ (by simp)) (Ev.now _))

theorem spec_MakeGrant.ev (p t s u d : Int) : Ev (fun k => spec_MakeGrant.f k p t s u d) (makeGrantV p t s u d) := by
  unfold spec_MakeGrant.f makeGrantV
  refine ev_bindc (spec_PublicKey.val p) (ev_bindc rfl (Ev.bind (spec_SignMessage.ev _ _ (by simp)) (Ev.bind (spec_IsGrant.ev _ _ _ _ _ _) ?_)))
  exact ev_ite (fun _ => Ev.now _) (fun _ => Ev.now _)

theorem spec_l27Chain.draw (b : List Int) (p h : Int) (hb : b.length ≤ 1048576) (hp : 0 ≤ p) : ∃ l q g, Ev (fun k => spec_l27Chain.f k b p h) (l, q, g) ∧ l.length ≤ 20 ∧ 0 ≤ q := by
  have j1 : ∀ (l : List S64) (c : Bool) (p h : Int), 0 ≤ p → l.length ≤ 20 → (c = true → 0 < l.length) → ∃ l' q g, Ev (fun k => spec_l27Chain.j1 k l c b p h) (l', q, g) ∧ l'.length ≤ 20 ∧ 0 ≤ q := by
    intro l c p h hp hl hc
    cases c
    · exact ⟨l, p, h, Ev.step (fun k => by rw [spec_l27Chain.j1]) (ev_neg (by simp) (Ev.now _)), hl, hp⟩
    · obtain ⟨x, q, g, e, x0, x1, q0⟩ := spec_l1Below.draw b p h (l.length : Int) hb hp (by omega)
      have x2 := x1 (by have := hc rfl; omega)
      obtain ⟨y, q', g', e', y0, y1, q0'⟩ := spec_l1Below.draw b q g 5 hb q0 (by omega)
      have w1 : wrap64 (x + 1) = x + 1 := wrap_in (by omega) (by omega)
      by_cases c0 : y = 0
      · exact ⟨l.set x.toNat ⟨(rd_T64 l x).f0, (rd_T64 l x).f1, 7, (rd_T64 l x).f3, (rd_T64 l x).f4, (rd_T64 l x).f5⟩, q', g', Ev.step (fun k => by rw [spec_l27Chain.j1]) (ev_pos rfl (ev_bindc e (ev_bindc e' (ev_pos c0 (ev_pos x0 (ev_pos x2 (Ev.now _))))))), by simpa using hl, q0'⟩
      · by_cases c1 : y = 1
        · exact ⟨l.set x.toNat ⟨(rd_T64 l x).f0, (rd_T64 l x).f1, (rd_T64 l x).f2, wrap64 ((rd_T64 l x).f3 + 1), (rd_T64 l x).f4, (rd_T64 l x).f5⟩, q', g', Ev.step (fun k => by rw [spec_l27Chain.j1]) (ev_pos rfl (ev_bindc e (ev_bindc e' (ev_neg c0 (ev_pos c1 (ev_pos x0 (ev_pos x2 (Ev.now _)))))))), by simpa using hl, q0'⟩
        · by_cases c2 : y = 2
          · exact ⟨l.set x.toNat ⟨(rd_T64 l x).f0, (rd_T64 l x).f1, (rd_T64 l x).f2, (rd_T64 l x).f3, wrap64 ((rd_T64 l x).f4 + 1), (rd_T64 l x).f5⟩, q', g', Ev.step (fun k => by rw [spec_l27Chain.j1]) (ev_pos rfl (ev_bindc e (ev_bindc e' (ev_neg c0 (ev_neg c1 (ev_pos c2 (ev_pos x0 (ev_pos x2 (Ev.now _))))))))), by simpa using hl, q0'⟩
          · by_cases c3 : y = 3
            · exact ⟨l.set x.toNat ⟨(rd_T64 l x).f0, (rd_T64 l x).f1, (rd_T64 l x).f2, (rd_T64 l x).f3, (rd_T64 l x).f4, wrap64 ((rd_T64 l x).f5 + 1)⟩, q', g', Ev.step (fun k => by rw [spec_l27Chain.j1]) (ev_pos rfl (ev_bindc e (ev_bindc e' (ev_neg c0 (ev_neg c1 (ev_neg c2 (ev_pos c3 (ev_pos x0 (ev_pos x2 (Ev.now _)))))))))), by simpa using hl, q0'⟩
            · refine ⟨l.eraseIdx x.toNat, q', g', Ev.step (fun k => by rw [spec_l27Chain.j1]) (ev_pos rfl (ev_bindc e (ev_bindc e' (ev_neg c0 (ev_neg c1 (ev_neg c2 (ev_neg c3 (ev_pos x0 (ev_pos (show x ≤ (l.length : Int) by omega) (ev_pos (show 0 ≤ wrap64 (x + 1) by omega) (ev_pos (show wrap64 (x + 1) ≤ (l.length : Int) by omega) (Ev.now _)))))))))))), ?_, q0'⟩
              rw [List.length_eraseIdx]
              split <;> omega
  have l0 : ∀ (d : Nat) (l : List S64) (x4 p h : Int), 0 ≤ p → l.length + d ≤ 20 → d ≤ 20 → ∃ l' q g, Ev (fun k => spec_l27Chain.l0 k l x4 (d : Int) b p h) (l', q, g) ∧ l'.length ≤ 20 ∧ 0 ≤ q := by
    intro d
    induction d with
    | zero =>
      intro l x4 p h hp hl _
      by_cases c : (l.length : Int) > 0
      · obtain ⟨y, q, g, e, q0⟩ := spec_l1Once.draw b p h 3 hb hp (by omega)
        obtain ⟨l', q', g', e', h1, h2⟩ := j1 l y q g q0 (by omega) (fun _ => by omega)
        exact ⟨l', q', g', Ev.step (fun k => by rw [spec_l27Chain.l0]) (ev_neg (by omega) (ev_pos c (ev_bindc e e'))), h1, h2⟩
      · obtain ⟨l', q', g', e', h1, h2⟩ := j1 l false p h hp (by omega) (fun h => by cases h)
        exact ⟨l', q', g', Ev.step (fun k => by rw [spec_l27Chain.l0]) (ev_neg (by omega) (ev_neg c e')), h1, h2⟩
    | succ d ih =>
      intro l x4 p h hp hl hd
      obtain ⟨y, q, g, e, _, q0⟩ := spec_l1Int.draw b p h [7, 7, 3, 5, 1] hb hp (by simp) (by simp)
      obtain ⟨z, q1, g1, e1, _, _, q10⟩ := spec_l1Below.draw b q g 9 hb q0 (by omega)
      have w : wrap64 (((d + 1 : Nat) : Int) - 1) = (d : Int) := by rw [wrap_in (by omega) (by omega)]; omega
      generalize hv : makeGrantV (wrap64 (101 + (l.length : Int))) (publicKeyV (wrap64 (102 + (l.length : Int)))) y (wrap64 (5 + z)) x4 = v
      have e2 := ev_eq (spec_MakeGrant.ev (wrap64 (101 + (l.length : Int))) (publicKeyV (wrap64 (102 + (l.length : Int)))) y (wrap64 (5 + z)) x4) hv
      cases c : v.2.2.2.2.2.2
      · obtain ⟨l', q', g', e', h1, h2⟩ := ih l (wrap64 (x4 - 1)) q1 g1 q10 (by omega) (by omega)
        refine ⟨l', q', g', Ev.step (fun k => by rw [spec_l27Chain.l0]) ?_, h1, h2⟩
        rw [w]
        exact ev_pos (by omega) (ev_bindc (spec_PublicKey.val _) (ev_bindc e (ev_bindc e1 (Ev.bind e2 (ev_neg (by rw [c]; simp) e')))))
      · obtain ⟨l', q', g', e', h1, h2⟩ := ih (l ++ [⟨v.1, v.2.1, v.2.2.1, v.2.2.2.1, v.2.2.2.2.1, v.2.2.2.2.2.1⟩]) (wrap64 (x4 - 1)) q1 g1 q10 (by simp; omega) (by omega)
        refine ⟨l', q', g', Ev.step (fun k => by rw [spec_l27Chain.l0]) ?_, h1, h2⟩
        rw [w]
        exact ev_pos (by omega) (ev_bindc (spec_PublicKey.val _) (ev_bindc e (ev_bindc e1 (Ev.bind e2 (ev_pos c (ev_pos (by omega) e'))))))
  unfold spec_l27Chain.f
  obtain ⟨x, q, g, e, x0, x1, q0⟩ := spec_l1Below.draw b p h 4 hb hp (by omega)
  obtain ⟨y, q', g', e', y0, y1, q0'⟩ := spec_l1Below.draw b q g 3 hb q0 (by omega)
  have y2 := y1 (by omega)
  obtain ⟨l', q2, g2, e2, h1, h2⟩ := l0 (1 + y).toNat [] (wrap64 (1 + x)) q' g' q0' (by simp; omega) (by omega)
  refine ⟨l', q2, g2, ev_bindc e (ev_bindc e' ?_), h1, h2⟩
  rw [Int.toNat_of_nonneg (by omega)] at e2
  rw [wrap_in (x := 1 + y) (by omega) (by omega)]
  exact e2

theorem spec_l1New.draw (l : List Int) (hl : l.length ≤ 1048576) : ∃ h, Ev (fun k => spec_l1New.f k l) (l, 0, h) := by
  unfold spec_l1New.f
  have key : ∀ (d i : Nat), i + d = min l.length 4000 → ∀ h, ∃ h', Ev (fun k => spec_l1New.l0 k l h (i : Int)) (l, 0, h') := by
    intro d
    induction d with
    | zero =>
      intro i hi h
      refine ⟨h, Ev.step (fun k => by rw [spec_l1New.l0]) ?_⟩
      exact ev_both (fun _ => ev_both (fun _ => by omega) (fun _ => Ev.now _)) (fun _ => Ev.now _)
    | succ d ih =>
      intro i hi h
      obtain ⟨h', e⟩ := ih (i + 1) (by omega) (Go.bits .and .i64 (wrap64 ((wrap64 ((wrap64 (h * 137)) + (wrap64 (rd l (i : Int))))) + 11)) 1073741823)
      refine ⟨h', Ev.step (fun k => by rw [spec_l1New.l0]) ?_⟩
      rw [wrap_succ (i := i) (by omega)]
      exact ev_pos (by omega) (ev_pos (by omega) (ev_pos (by omega) e))
  exact key (min l.length 4000) 0 (by omega) _

theorem spec_DrawChainScopes.draw (b : List Int) (hb : b.length ≤ 1048576) : ∃ l o a n, Ev (fun k => spec_DrawChainScopes.f k b) (l, o, a, n) ∧ l.length ≤ 20 := by
  have j0 : ∀ (l : List S64) (x y p h : Int), 0 ≤ p → l.length ≤ 20 → ∃ l' o a n, Ev (fun k => spec_DrawChainScopes.j0 k l x y b p h) (l', o, a, n) ∧ l'.length ≤ 20 := by
    intro l x y p h hp hl
    obtain ⟨c, q, g, e, q0⟩ := spec_l1Once.draw b p h 8 hb hp (by omega)
    obtain ⟨z, q', g', e', _, _, _⟩ := spec_l1Below.draw b q g 14 hb q0 (by omega)
    cases c
    · refine ⟨l, x, y, z, ?_, hl⟩
      refine Ev.step (fun k => by rw [spec_DrawChainScopes.j0]) ?_
      exact ev_bindc e (ev_neg (by simp) (ev_bindc e' (Ev.now _)))
    · refine ⟨l, y, y, z, ?_, hl⟩
      refine Ev.step (fun k => by rw [spec_DrawChainScopes.j0]) ?_
      exact ev_bindc e (ev_pos rfl (ev_bindc e' (Ev.now _)))
  unfold spec_DrawChainScopes.f
  obtain ⟨h, e⟩ := spec_l1New.draw b hb
  obtain ⟨l, q, g, e1, hl, q0⟩ := spec_l27Chain.draw b 0 h hb (by omega)
  obtain ⟨c, q2, g2, e2, q20⟩ := spec_l1Once.draw b q g 6 hb q0 (by omega)
  cases c
  · obtain ⟨l', o, a, n, e3, h3⟩ := j0 l (publicKeyV 101) (publicKeyV (wrap64 (101 + (l.length : Int)))) q2 g2 q20 hl
    exact ⟨l', o, a, n, Ev.bind e (Ev.bind e1 (ev_bindc (spec_PublicKey.val _) (ev_bindc (spec_PublicKey.val _) (ev_bindc e2 (ev_neg (by simp) e3))))), h3⟩
  · obtain ⟨z, q3, g3, e3, _, _, q30⟩ := spec_l1Below.draw b q2 g2 5 hb q20 (by omega)
    obtain ⟨l', o, a, n, e4, h4⟩ := j0 l (publicKeyV 101) (publicKeyV (wrap64 (101 + z))) q3 g3 q30 hl
    exact ⟨l', o, a, n, Ev.bind e (Ev.bind e1 (ev_bindc (spec_PublicKey.val _) (ev_bindc (spec_PublicKey.val _) (ev_bindc e2 (ev_pos rfl (ev_bindc e3 (ev_bindc (spec_PublicKey.val _) e4))))))), h4⟩

def linkOk (l : List S64) (t : Int) (i : Nat) : Prop := isGrantV (rd_T64 l i).f0 (rd_T64 l i).f1 (rd_T64 l i).f2 (rd_T64 l i).f3 (rd_T64 l i).f4 (rd_T64 l i).f5 = true ∧ ¬ (rd_T64 l i).f3 < t ∧ (0 < i → (rd_T64 l i).f0 = (rd_T64 l ((i : Int) - 1)).f1 ∧ ¬ (rd_T64 l i).f4 ≥ (rd_T64 l ((i : Int) - 1)).f4)
def chainAcc (l : List S64) : Nat → Int
  | 0 => 7
  | i + 1 => Go.bits .and .i64 (chainAcc l i) (rd_T64 l (i : Int)).f2
noncomputable def chainV (l : List S64) (a b t : Int) : Int := if dec (0 < l.length ∧ (rd_T64 l 0).f0 = a ∧ (rd_T64 l ((l.length : Int) - 1)).f1 = b ∧ ∀ i, i < l.length → linkOk l t i) = true then chainAcc l l.length else 0
theorem chainV_no {l : List S64} {a b t : Int} (h : ¬ (0 < l.length ∧ (rd_T64 l 0).f0 = a ∧ (rd_T64 l ((l.length : Int) - 1)).f1 = b ∧ ∀ i, i < l.length → linkOk l t i)) : chainV l a b t = 0 := by
  unfold chainV
  rw [dec_false h]
  rfl
theorem chainV_yes {l : List S64} {a b t : Int} (h : 0 < l.length ∧ (rd_T64 l 0).f0 = a ∧ (rd_T64 l ((l.length : Int) - 1)).f1 = b ∧ ∀ i, i < l.length → linkOk l t i) : chainV l a b t = chainAcc l l.length := by
  unfold chainV
  rw [dec_true h]
  rfl
theorem link_bad {l : List S64} {t : Int} (h : ¬ ∀ i, i < l.length → linkOk l t i) : ∃ i, i < l.length ∧ ¬ linkOk l t i :=
  Classical.byContradiction fun no => h fun i hi => Classical.byContradiction fun q => no ⟨i, hi, q⟩

theorem impl_power.evM : Ev (fun k => impl_power.f k 48271 2147483645 2147483647) 1899818559 :=
  Ev.of (k := 40) (fun k => impl_power.mono _ _ _ k) (by decide +kernel)

theorem impl_InRange.val (a b c : Int) : impl_InRange.f a b c = some (decide (b ≤ a ∧ a ≤ c)) := by
  unfold impl_InRange.f
  by_cases h : b ≤ a
  · rw [if_pos h]; simp [h]
  · rw [if_neg h]; simp [h]

theorem impl_IsValidKey.val (a : Int) : impl_IsValidKey.f a = some (decide (1 ≤ a ∧ a ≤ 2147483646)) := by
  unfold impl_IsValidKey.f
  rw [impl_InRange.val]
  rfl

theorem impl_PrivateKey.ev (a : Int) : Ev (fun k => impl_PrivateKey.f k a) (privateKeyV a) := by
  unfold impl_PrivateKey.f
  rw [impl_IsValidKey.val]
  simp only [Option.bind_some, decide_eq_true_eq]
  by_cases h : 1 ≤ a ∧ a ≤ 2147483646
  · have e : privateKeyV a = a * 1899818559 % 2147483647 := if_pos h
    refine ev_pos h (Ev.bind impl_power.evM ?_)
    rw [wrap_in (by omega) (by omega), Int.tmod_eq_emod_of_nonneg (by omega), ← e]
    exact Ev.now _
  · refine ev_neg h ?_
    rw [(private_ne a).2 h]
    exact Ev.now _

theorem impl_Mod.ev (p q : Int) : Ev (fun k => impl_Mod.f k p q) (modV p q) := by
  unfold impl_Mod.f modV
  by_cases h1 : q < 1
  · refine ev_pos h1 (Ev.step (fun k => by rw [impl_Mod.j0]) (ev_pos rfl ?_))
    rw [if_neg (show ¬ (1 ≤ q ∧ q ≤ 1000000000000) by omega)]
    exact Ev.now _
  · refine ev_neg h1 (Ev.step (fun k => by rw [impl_Mod.j0]) ?_)
    by_cases h2 : q > 1000000000000
    · refine ev_pos (by simpa using h2) ?_
      rw [if_neg (show ¬ (1 ≤ q ∧ q ≤ 1000000000000) by omega)]
      exact Ev.now _
    · refine ev_neg (by simpa using h2) (ev_neg (by omega) ?_)
      rw [if_pos (show 1 ≤ q ∧ q ≤ 1000000000000 by omega)]
      have r1 := tmod_range p (show 1 ≤ q by omega)
      have r2 := tmod_add p (show 1 ≤ q by omega)
      by_cases h3 : Int.tmod p q < 0
      · refine ev_pos h3 (ev_const ?_)
        rw [wrap_in (by omega) (by omega), ← r2, Int.emod_eq_of_lt (by omega) (by omega)]
      · refine ev_neg h3 (ev_const ?_)
        rw [← r2, Int.add_emod_right, Int.emod_eq_of_lt (by omega) (by omega)]

theorem impl_Hash.ev (l : List Int) (hl : l.length < 4611686018427387904) : Ev (fun k => impl_Hash.f k l) (hashV l) := by
  unfold impl_Hash.f
  refine scan0 (xs := l) (fun k h i => impl_Hash.l0 k h l l.length i) (fun ys h => ys.foldl hashStep h) (fun s => ?_) (fun i h s ih => ?_) 11
  · refine Ev.step (fun k => by rw [impl_Hash.l0]) ?_
    exact ev_neg (by omega) (Ev.now _)
  · refine Ev.step (fun k => by rw [impl_Hash.l0]) ?_
    refine ev_pos (by omega) (ev_pos (by omega) (ev_pos (by omega) ?_))
    rw [rd_get h, wrap_succ (by omega)]
    exact Ev.bind (impl_Mod.ev _ _) (ih _)

theorem impl_joined.ev (l : List Int) (ls : List (List Int)) (hls : ls.length < 4611686018427387904) (hl : l.length + (ls.flatten).length < 17592186044416) : Ev (fun k => impl_joined.f k l ls) (l ++ ls.flatten) := by
  unfold impl_joined.f
  simp only [Option.bind_some, List.nil_append, List.length_nil]
  refine ev_pos (by omega) ?_
  have key : ∀ (d i : Nat), i + d = ls.length → ∀ s : List Int, s.length + ((ls.drop i).flatten).length < 17592186044416 → Ev (fun k => impl_joined.l0 k s ls ls.length (i : Int)) (s ++ (ls.drop i).flatten) := by
    intro d
    induction d with
    | zero =>
      intro i hi s hs
      rw [List.drop_of_length_le (by omega)]
      refine Ev.step (fun k => by rw [impl_joined.l0]) ?_
      refine ev_neg (by omega) ?_
      simpa using Ev.now s
    | succ d ih =>
      intro i hi s hs
      have h : i < ls.length := by omega
      rw [List.drop_eq_getElem_cons h] at hs ⊢
      simp only [List.flatten_cons, List.length_append] at hs ⊢
      refine Ev.step (fun k => by rw [impl_joined.l0]) ?_
      refine ev_pos (by omega) (ev_pos (by omega) (ev_pos (by omega) ?_))
      simp only [rd_L2, getD_get h, wrap_succ (show i < 4611686018427387904 by omega)]
      refine ev_pos (by omega) ?_
      have := ih (i + 1) (by omega) (s ++ ls[i]) (by rw [List.length_append]; omega)
      rwa [List.append_assoc] at this
  exact key ls.length 0 (by omega) l hl

theorem impl_KeyedHash.ev (key : Int) (l : List Int) (hl : l.length < 17592186044400) : Ev (fun k => impl_KeyedHash.f k key l) (keyedHashV key l) := by
  unfold impl_KeyedHash.f keyedHashV
  refine Ev.bind (impl_joined.ev _ _ (by simp) (by simp; omega)) ?_
  simp only [List.flatten_cons, List.flatten_nil, List.append_nil]
  exact Ev.bind (impl_Hash.ev _ (by simp; omega)) (Ev.now _)

theorem impl_SignMessage.ev (p : Int) (m : List Int) (hm : m.length < 17592186044000) : Ev (fun k => impl_SignMessage.f k p m) (signV p m) := by
  unfold impl_SignMessage.f signV
  rw [impl_IsValidKey.val]
  simp only [Option.bind_some, decide_eq_true_eq]
  refine ev_ite (fun _ => ?_) (fun _ => Ev.now _)
  refine Ev.bind (impl_joined.ev _ _ (by simp) (by simp; omega)) ?_
  simp only [List.flatten_cons, List.flatten_nil, List.append_nil]
  exact Ev.bind (impl_KeyedHash.ev _ _ (by simp; omega)) (Ev.now _)

theorem impl_VerifySignature.ev (p : Int) (m : List Int) (s : Int) (hm : m.length < 17592186044000) : Ev (fun k => impl_VerifySignature.f k p m s) (verifyV p m s) := by
  unfold impl_VerifySignature.f verifyV
  exact Ev.bind (impl_PrivateKey.ev p) (ev_ite (fun _ => Ev.now _) (fun _ => Ev.bind (impl_SignMessage.ev _ m hm) (Ev.now _)))

theorem impl_IsGrant.ev (a b c d e f : Int) : Ev (fun k => impl_IsGrant.f k a b c d e f) (isGrantV a b c d e f) := by
  unfold impl_IsGrant.f isGrantV
  simp only [impl_InRange.val, Option.bind_some, decide_eq_true_eq]
  refine Ev.bind (impl_PrivateKey.ev a) (ev_ite (fun _ => Ev.now _) (fun _ => ?_))
  refine Ev.bind (impl_PrivateKey.ev b) (ev_ite (fun _ => Ev.now _) (fun _ => ?_))
  refine ev_ite (fun _ => Ev.now _) (fun _ => ev_ite (fun _ => ev_ite (fun _ => ev_ite (fun _ => ?_) (fun _ => Ev.now _)) (fun _ => Ev.now _)) (fun _ => Ev.now _))
  exact ev_bindc rfl (Ev.bind (impl_VerifySignature.ev _ _ _ (by simp)) (Ev.now _))

theorem impl_ChainScopes.go (l : List S64) (a b t : Int) (hl : l.length < 4611686018427387904) (i : Nat) (hi : i < l.length) (q : ¬ ¬ linkOk l t i) (r : Int) (ih : Ev (fun k => impl_ChainScopes.l0 k l a b t (chainAcc l (i + 1)) l (l.length : Int) ((i + 1 : Nat) : Int)) r) : Ev (fun k => impl_ChainScopes.l0 k l a b t (chainAcc l i) l (l.length : Int) (i : Int)) r := by
  have ⟨q0, q1, q2⟩ := Classical.not_not.1 q
  have e1 := wrap_in (x := (i : Int) - 1) (show -9223372036854775808 ≤ (i : Int) - 1 by omega) (show (i : Int) - 1 ≤ 9223372036854775807 by omega)
  refine Ev.step (fun k => by rw [impl_ChainScopes.l0]) ?_
  rw [e1, wrap_succ (i := i) (by omega)]
  refine ev_pos (by omega) (ev_pos (by omega) (ev_pos (by omega) (Ev.bind (impl_IsGrant.ev _ _ _ _ _ _) (ev_pos q0 (ev_neg q1 ?_)))))
  refine ev_both (fun h => ?_) (fun _ => ih)
  have q3 := q2 (by omega)
  exact ev_pos (by omega) (ev_pos (by omega) (ev_pos q3.1 (ev_neg q3.2 ih)))
theorem impl_ChainScopes.stop (l : List S64) (a b t : Int) (hl : l.length < 4611686018427387904) (i : Nat) (hi : i < l.length) (q : ¬ linkOk l t i) : Ev (fun k => impl_ChainScopes.l0 k l a b t (chainAcc l i) l (l.length : Int) (i : Int)) 0 := by
  have e1 := wrap_in (x := (i : Int) - 1) (show -9223372036854775808 ≤ (i : Int) - 1 by omega) (show (i : Int) - 1 ≤ 9223372036854775807 by omega)
  refine Ev.step (fun k => by rw [impl_ChainScopes.l0]) ?_
  rw [e1]
  refine ev_pos (by omega) (ev_pos (by omega) (ev_pos (by omega) (Ev.bind (impl_IsGrant.ev _ _ _ _ _ _) (ev_both (fun h0 => ?_) (fun _ => Ev.now _)))))
  refine ev_both (fun _ => Ev.now _) (fun h1 => ?_)
  refine ev_both (fun h2 => ?_) (fun h2 => ?_)
  · refine ev_pos (by omega) (ev_pos (by omega) (ev_both (fun h3 => ev_both (fun _ => Ev.now _) (fun h4 => ?_)) (fun _ => Ev.now _)))
    exact absurd ⟨h0, h1, fun _ => ⟨h3, h4⟩⟩ q
  · exact absurd ⟨h0, h1, fun h => absurd h (by omega)⟩ q
theorem impl_ChainScopes.ev (l : List S64) (a b t : Int) (hl : l.length < 4611686018427387904) : Ev (fun k => impl_ChainScopes.f k l a b t) (chainV l a b t) := by
  unfold impl_ChainScopes.f
  refine ev_both (fun h => ?_) (fun h => ?_)
  · rw [chainV_no (fun g => by omega)]; exact Ev.now _
  by_cases h3 : ∀ i, i < l.length → linkOk l t i
  · refine scan_miss (n := l.length) (fun k i => impl_ChainScopes.l0 k l a b t (chainAcc l i.toNat) l (l.length : Int) i) (fun i => ¬ linkOk l t i) _ ?_ (fun i hi q r ih => impl_ChainScopes.go l a b t hl i hi q r ih) (fun i hi q => q (h3 i hi))
    have e1 := wrap_in (x := (l.length : Int) - 1) (show -9223372036854775808 ≤ (l.length : Int) - 1 by omega) (show (l.length : Int) - 1 ≤ 9223372036854775807 by omega)
    refine Ev.step (fun k => by rw [impl_ChainScopes.l0]) (ev_neg (by omega) (ev_pos (by omega) ?_))
    rw [e1]
    refine ev_both (fun h1 => ev_pos (by omega) (ev_pos (by omega) (ev_both (fun h2 => ?_) (fun h2 => ?_)))) (fun h1 => ?_)
    · rw [chainV_yes ⟨by omega, h1, h2, h3⟩]; exact Ev.now _
    · rw [chainV_no (fun g => h2 g.2.2.1)]; exact Ev.now _
    · rw [chainV_no (fun g => h1 g.2.1)]; exact Ev.now _
  · rw [chainV_no (fun g => h3 g.2.2.2)]
    exact scan_hit (n := l.length) (fun k i => impl_ChainScopes.l0 k l a b t (chainAcc l i.toNat) l (l.length : Int) i) (fun i => ¬ linkOk l t i) 0 (fun i hi q r ih => impl_ChainScopes.go l a b t hl i hi q r ih) (fun i hi q => impl_ChainScopes.stop l a b t hl i hi q) (link_bad h3)

theorem spec_ChainScopes.go (l : List S64) (a b t : Int) (hl : l.length < 4611686018427387904) (i : Nat) (hi : i < l.length) (q : ¬ ¬ linkOk l t i) (r : Int) (ih : Ev (fun k => spec_ChainScopes.l0 k l t (l.length : Int) (chainAcc l (i + 1)) ((i + 1 : Nat) : Int)) r) : Ev (fun k => spec_ChainScopes.l0 k l t (l.length : Int) (chainAcc l i) (i : Int)) r := by
  have ⟨q0, q1, q2⟩ := Classical.not_not.1 q
  have e1 := wrap_in (x := (i : Int) - 1) (show -9223372036854775808 ≤ (i : Int) - 1 by omega) (show (i : Int) - 1 ≤ 9223372036854775807 by omega)
  refine Ev.step (fun k => by rw [spec_ChainScopes.l0]) ?_
  rw [e1, wrap_succ (i := i) (by omega)]
  refine ev_pos (by omega) (ev_pos (by omega) (ev_pos (by omega) (Ev.bind (spec_IsGrant.ev _ _ _ _ _ _) (ev_pos q0 (ev_neg q1 ?_)))))
  refine ev_both (fun h => ?_) (fun _ => ih)
  have q3 := q2 (by omega)
  exact ev_pos (by omega) (ev_pos (by omega) (ev_pos q3.1 (ev_neg q3.2 ih)))
theorem spec_ChainScopes.stop (l : List S64) (a b t : Int) (hl : l.length < 4611686018427387904) (i : Nat) (hi : i < l.length) (q : ¬ linkOk l t i) : Ev (fun k => spec_ChainScopes.l0 k l t (l.length : Int) (chainAcc l i) (i : Int)) 0 := by
  have e1 := wrap_in (x := (i : Int) - 1) (show -9223372036854775808 ≤ (i : Int) - 1 by omega) (show (i : Int) - 1 ≤ 9223372036854775807 by omega)
  refine Ev.step (fun k => by rw [spec_ChainScopes.l0]) ?_
  rw [e1]
  refine ev_pos (by omega) (ev_pos (by omega) (ev_pos (by omega) (Ev.bind (spec_IsGrant.ev _ _ _ _ _ _) (ev_both (fun h0 => ?_) (fun _ => Ev.now _)))))
  refine ev_both (fun _ => Ev.now _) (fun h1 => ?_)
  refine ev_both (fun h2 => ?_) (fun h2 => ?_)
  · refine ev_pos (by omega) (ev_pos (by omega) (ev_both (fun h3 => ev_both (fun _ => Ev.now _) (fun h4 => ?_)) (fun _ => Ev.now _)))
    exact absurd ⟨h0, h1, fun _ => ⟨h3, h4⟩⟩ q
  · exact absurd ⟨h0, h1, fun h => absurd h (by omega)⟩ q
theorem spec_ChainScopes.ev (l : List S64) (a b t : Int) (hl : l.length < 4611686018427387904) : Ev (fun k => spec_ChainScopes.f k l a b t) (chainV l a b t) := by
  unfold spec_ChainScopes.f
  have out : Ev (fun k => spec_ChainScopes.j0 k l t (l.length : Int) true) 0 := Ev.step (fun k => by rw [spec_ChainScopes.j0]) (ev_pos rfl (Ev.now _))
  refine ev_both (fun h => ?_) (fun h => ev_pos (by omega) (ev_both (fun h1 => ?_) (fun h1 => ?_)))
  · rw [chainV_no (fun g => by omega)]; exact out
  · have e1 := wrap_in (x := (l.length : Int) - 1) (show -9223372036854775808 ≤ (l.length : Int) - 1 by omega) (show (l.length : Int) - 1 ≤ 9223372036854775807 by omega)
    rw [e1]
    refine ev_pos (by omega) (ev_pos (by omega) ?_)
    by_cases h2 : (rd_T64 l ((l.length : Int) - 1)).f1 = b
    · rw [show ((rd_T64 l ((l.length : Int) - 1)).f1 != b) = false by simpa using h2]
      refine Ev.step (fun k => by rw [spec_ChainScopes.j0]) (ev_neg (by simp) ?_)
      by_cases h3 : ∀ i, i < l.length → linkOk l t i
      · rw [chainV_yes ⟨by omega, h1, h2, h3⟩]
        refine scan_miss (n := l.length) (fun k i => spec_ChainScopes.l0 k l t (l.length : Int) (chainAcc l i.toNat) i) (fun i => ¬ linkOk l t i) _ ?_ (fun i hi q r ih => spec_ChainScopes.go l a b t hl i hi q r ih) (fun i hi q => q (h3 i hi))
        refine Ev.step (fun k => by rw [spec_ChainScopes.l0]) ?_
        exact ev_neg (by omega) (Ev.now _)
      · rw [chainV_no (fun g => h3 g.2.2.2)]
        exact scan_hit (n := l.length) (fun k i => spec_ChainScopes.l0 k l t (l.length : Int) (chainAcc l i.toNat) i) (fun i => ¬ linkOk l t i) 0 (fun i hi q r ih => spec_ChainScopes.go l a b t hl i hi q r ih) (fun i hi q => spec_ChainScopes.stop l a b t hl i hi q) (link_bad h3)
    · rw [show ((rd_T64 l ((l.length : Int) - 1)).f1 != b) = true by simpa using h2, chainV_no (fun g => h2 g.2.2.1)]
      exact out
  · rw [chainV_no (fun g => h1 g.2.1)]; exact out

noncomputable def canActV (l : List S64) (a b s t : Int) : Bool := if (s = 1 ∨ s = 2 ∨ s = 4) then (if b = a ∧ privateKeyV a ≠ 0 then true else decide (Go.bits .and .i64 (chainV l a b t) s ≠ 0)) else false
theorem canActV_no {l : List S64} {a b s t : Int} (h : ¬ (s = 1 ∨ s = 2 ∨ s = 4)) : canActV l a b s t = false := by
  unfold canActV
  rw [if_neg h]

theorem impl_CanAct.ev (l : List S64) (a b s t : Int) (hl : l.length < 4611686018427387904) : Ev (fun k => impl_CanAct.f k l a b s t) (canActV l a b s t) := by
  have yes : (s = 1 ∨ s = 2 ∨ s = 4) → Ev (fun k => impl_CanAct.j0 k l a b s t false) (canActV l a b s t) := by
    intro h
    unfold canActV
    rw [if_pos h]
    refine Ev.step (fun k => by rw [impl_CanAct.j0]) (ev_neg (by simp) ?_)
    refine Ev.bind (impl_ChainScopes.ev l a b t hl) (ev_both (fun h0 => ?_) (fun h0 => ?_))
    · rw [decide_eq_false (fun g => g h0)]
      refine ev_both (fun h1 => Ev.bind (impl_PrivateKey.ev _) (ev_const ?_)) (fun h1 => ?_)
      · by_cases h2 : privateKeyV a = 0 <;> simp [h1, h2]
      · rw [if_neg (fun g => h1 g.1)]; exact Ev.now _
    · rw [decide_eq_true h0]
      refine ev_const ?_
      split <;> rfl
  unfold impl_CanAct.f
  refine ev_both (fun h => yes (by omega)) (fun h1 => ev_both (fun h => yes (by omega)) (fun h2 => ?_))
  by_cases h4 : s = 4
  · rw [show (s != 4) = false by simpa using h4]
    exact yes (by omega)
  · rw [show (s != 4) = true by simpa using h4, canActV_no (by omega)]
    exact Ev.step (fun k => by rw [impl_CanAct.j0]) (ev_pos rfl (Ev.now _))

def chainEndV : List S64 → Int
  | [] => -1
  | g :: gs => gs.foldl (fun m x => min m x.f3) g.f3

theorem impl_ChainEnd.ev (l : List S64) (hl : l.length < 4611686018427387904) : Ev (fun k => impl_ChainEnd.f k l) (chainEndV l) := by
  unfold impl_ChainEnd.f
  cases l with
  | nil => exact ev_pos rfl (Ev.now _)
  | cons g gs =>
    refine ev_neg (by simp <;> omega) (ev_pos (by simp <;> omega) ?_)
    have e : rd_T64 (g :: gs) 0 = g := rfl
    rw [e]
    refine ev_eq (scan0 (xs := g :: gs) (fun k m i => impl_ChainEnd.l0 k m (g :: gs) ((g :: gs).length : Int) i) (fun ys m => ys.foldl (fun m x => min m x.f3) m) (fun s => ?_) (fun i h s ih => ?_) g.f3) ?_
    · refine Ev.step (fun k => by rw [impl_ChainEnd.l0]) ?_
      exact ev_neg (by omega) (Ev.now _)
    · refine Ev.step (fun k => by rw [impl_ChainEnd.l0]) ?_
      refine ev_pos (by omega) (ev_pos (by omega) (ev_pos (by omega) ?_))
      rw [rd_T64, getD_get h, wrap_succ (by omega)]
      have e : mn s (g :: gs)[i].f3 = min s (g :: gs)[i].f3 := by unfold mn; split <;> omega
      rw [e]
      exact ih _
    · simp [chainEndV]

theorem and8 (a b : Nat) (ha : a < 8) (hb : b < 8) : Go.bits .and .i64 (a : Int) (b : Int) = ((a &&& b : Nat) : Int) :=
  (by decide +kernel : ∀ a b : Fin 8, Go.bits .and .i64 (a.val : Int) (b.val : Int) = ((a.val &&& b.val : Nat) : Int)) ⟨a, ha⟩ ⟨b, hb⟩
theorem andNot8 (a b : Nat) (ha : a < 8) (hb : b < 8) (h : a &&& b = a) : Go.bits .andNot .i64 (a : Int) (b : Int) = 0 :=
  (by decide +kernel : ∀ a b : Fin 8, a.val &&& b.val = a.val → Go.bits .andNot .i64 (a.val : Int) (b.val : Int) = 0) ⟨a, ha⟩ ⟨b, hb⟩ h
theorem andNot0 (b : Int) : Go.bits .andNot .i64 0 b = 0 := by
  show IntKind.i64.wrap ((BitVec.ofInt 64 0 &&& ~~~BitVec.ofInt 64 b).toNat : Nat) = 0
  rw [show BitVec.ofInt 64 0 = 0#64 from rfl, BitVec.zero_and]
  rfl
theorem and0 (b : Int) : Go.bits .and .i64 0 b = 0 := by
  show IntKind.i64.wrap ((BitVec.ofInt 64 0 &&& BitVec.ofInt 64 b).toNat : Nat) = 0
  rw [show BitVec.ofInt 64 0 = 0#64 from rfl, BitVec.zero_and]
  rfl
theorem and_lt8 (a b : Nat) (ha : a < 8) : a &&& b < 8 := Nat.lt_of_le_of_lt Nat.and_le_left ha

theorem chain_of {l : List S64} {a b t : Int} (h : chainV l a b t ≠ 0) : 0 < l.length ∧ (rd_T64 l 0).f0 = a ∧ (rd_T64 l ((l.length : Int) - 1)).f1 = b ∧ ∀ i, i < l.length → linkOk l t i :=
  Classical.byContradiction fun g => h (chainV_no g)
theorem grant_scopes {a b c d e f : Int} (h : isGrantV a b c d e f = true) : privateKeyV a ≠ 0 ∧ (1 ≤ c ∧ c ≤ 7) ∧ (0 ≤ d ∧ d ≤ 1000000) := by
  unfold isGrantV at h
  split at h
  · cases h
  · rename_i h0
    split at h
    · cases h
    · split at h
      · cases h
      · split at h
        · rename_i h1
          split at h
          · rename_i h2; exact ⟨h0, h1, h2⟩
          · cases h
        · cases h
/-- The rights that are left are among those of each grant. -/
theorem chainAcc_sub (l : List S64) (n : Nat) (h : ∀ i, i < n → 1 ≤ (rd_T64 l (i : Int)).f2 ∧ (rd_T64 l (i : Int)).f2 ≤ 7) : ∃ m : Nat, m < 8 ∧ chainAcc l n = (m : Int) ∧ ∀ j, j < n → ∃ c : Nat, c < 8 ∧ (rd_T64 l (j : Int)).f2 = (c : Int) ∧ m &&& c = m := by
  induction n with
  | zero => exact ⟨7, by omega, rfl, fun j hj => by omega⟩
  | succ n ih =>
    obtain ⟨m, h1, h2, h3⟩ := ih (fun i hi => h i (by omega))
    have hc := h n (by omega)
    obtain ⟨c, hc'⟩ : ∃ c : Nat, (rd_T64 l (n : Int)).f2 = (c : Int) := ⟨(rd_T64 l (n : Int)).f2.toNat, by omega⟩
    have c8 : c < 8 := by omega
    refine ⟨m &&& c, and_lt8 m c h1, ?_, fun j hj => ?_⟩
    · rw [chainAcc, h2, hc', and8 m c h1 c8]
    · by_cases e : j = n
      · subst e
        exact ⟨c, c8, hc', by rw [Nat.and_assoc, Nat.and_self]⟩
      · obtain ⟨d, d8, hd, hm⟩ := h3 j (by omega)
        exact ⟨d, d8, hd, by rw [Nat.and_assoc, Nat.and_comm c d, ← Nat.and_assoc, hm]⟩
theorem chain_sub {l : List S64} {a b t : Int} : ∃ m : Nat, m < 8 ∧ chainV l a b t = (m : Int) ∧ ∀ j, j < l.length → Go.bits .andNot .i64 (m : Int) (rd_T64 l (j : Int)).f2 = 0 := by
  by_cases h : chainV l a b t = 0
  · exact ⟨0, by omega, h, fun j _ => andNot0 _⟩
  · have g := chain_of h
    obtain ⟨m, h1, h2, h3⟩ := chainAcc_sub l l.length (fun i hi => (grant_scopes (g.2.2.2 i hi).1).2.1)
    refine ⟨m, h1, (chainV_yes g).trans h2, fun j hj => ?_⟩
    obtain ⟨c, c8, hc, hm⟩ := h3 j hj
    rw [hc]
    exact andNot8 m c h1 c8 hm
theorem chain_at {l : List S64} {a b t : Int} (u : Int) (h : chainV l a b t ≠ 0) (hu : ∀ i, i < l.length → ¬ (rd_T64 l (i : Int)).f3 < u) : chainV l a b u = chainV l a b t := by
  have g := chain_of h
  rw [chainV_yes g]
  exact chainV_yes ⟨g.1, g.2.1, g.2.2.1, fun i hi => ⟨(g.2.2.2 i hi).1, hu i hi, (g.2.2.2 i hi).2.2⟩⟩
theorem chain_past {l : List S64} {a b : Int} (u : Int) (i : Nat) (hi : i < l.length) (hu : (rd_T64 l (i : Int)).f3 < u) : chainV l a b u = 0 :=
  chainV_no fun g => (g.2.2.2 i hi).2.1 hu

theorem foldl_least (gs : List S64) (m : Int) : gs.foldl (fun m x => min m x.f3) m ≤ m ∧ (∀ x ∈ gs, gs.foldl (fun m x => min m x.f3) m ≤ x.f3) ∧ (gs.foldl (fun m x => min m x.f3) m = m ∨ ∃ x ∈ gs, gs.foldl (fun m x => min m x.f3) m = x.f3) := by
  induction gs generalizing m with
  | nil => exact ⟨Int.le_refl _, fun x hx => (by cases hx), Or.inl rfl⟩
  | cons g gs ih =>
    have := ih (min m g.f3)
    simp only [List.foldl_cons]
    refine ⟨by omega, fun x hx => ?_, ?_⟩
    · rcases List.mem_cons.1 hx with e | e
      · subst e; omega
      · exact this.2.1 x e
    · rcases this.2.2 with e | ⟨x, hx, e⟩
      · by_cases h : m ≤ g.f3
        · left; rw [e]; omega
        · right; exact ⟨g, List.mem_cons_self .., by rw [e]; omega⟩
      · right; exact ⟨x, List.mem_cons_of_mem _ hx, e⟩
theorem chainEnd_least (l : List S64) (hl : 0 < l.length) : (∀ i, i < l.length → chainEndV l ≤ (rd_T64 l (i : Int)).f3) ∧ ∃ i, i < l.length ∧ chainEndV l = (rd_T64 l (i : Int)).f3 := by
  cases l with
  | nil => cases hl
  | cons g gs =>
    have k := foldl_least gs g.f3
    have get : ∀ i (h : i < (g :: gs).length), rd_T64 (g :: gs) (i : Int) = (g :: gs)[i] := fun i h => by rw [rd_T64, getD_get h]
    have out : ∀ x ∈ g :: gs, ∃ i, ∃ h : i < (g :: gs).length, (g :: gs)[i] = x := fun x hx => List.mem_iff_getElem.1 hx
    refine ⟨fun i hi => ?_, ?_⟩
    · rw [get i hi]
      have hx := List.getElem_mem hi
      rcases List.mem_cons.1 hx with e | e
      · rw [e]; exact k.1
      · exact k.2.1 _ e
    · rcases k.2.2 with e | ⟨x, hx, e⟩
      · exact ⟨0, by simp, e⟩
      · obtain ⟨i, hi, hg⟩ := out x (List.mem_cons_of_mem _ hx)
        exact ⟨i, hi, by rw [get i hi, hg]; exact e⟩

theorem canAct_owner (L : List S64) (a t : Int) : canActV L a a 4 t = (privateKeyV a != 0) := by
  unfold canActV
  rw [if_pos (by omega)]
  by_cases h : privateKeyV a = 0
  · rw [if_neg (fun g => g.2 h), h]
    have : chainV L a a t = 0 := by
      by_cases z : chainV L a a t = 0
      · exact z
      · have g := chain_of z
        have k := (grant_scopes (g.2.2.2 0 g.1).1).1
        exfalso
        apply k
        have e := g.2.1
        rw [← e] at h
        exact h
    rw [this, and0]
    rfl
  · rw [if_pos ⟨rfl, h⟩]
    exact (bne_iff_ne.2 h).symm
theorem grants_fin (L : List S64) (a b t : Int) (hl : L.length ≤ 20) : Ev (fun k => (impl_CanAct.f k L a a 4 t).bind fun t350 => ((spec_PrivateKey.f k a).bind fun t351 => (if (t350 == (t351 != 0)) = true then ((impl_CanAct.f k L a b 3 t).bind fun t352 => (if t352 = true then (some false) else (if b = a then (some true) else ((impl_CanAct.f k L a b 2 t).bind fun t353 => (some (t353 == ((Go.bits .and .i64 (chainV L a b t) 2) != 0))))))) else (some false)))) true := by
  refine Ev.bind (ev_eq (impl_CanAct.ev L a a 4 t (by omega)) (canAct_owner L a t)) (Ev.bind (spec_PrivateKey.ev a) (ev_pos (by simp) ?_))
  refine Ev.bind (ev_eq (impl_CanAct.ev L a b 3 t (by omega)) (canActV_no (by omega))) (ev_neg (by simp) ?_)
  refine ev_both (fun _ => Ev.now _) (fun h => ?_)
  refine Ev.bind (impl_CanAct.ev L a b 2 t (by omega)) (ev_const ?_)
  unfold canActV
  rw [if_pos (by omega), if_neg (fun g => h g.1)]
  by_cases z : Go.bits .and .i64 (chainV L a b t) 2 = 0 <;> simp [z]
theorem FnGrants : Claim := by
  intro l ⟨hl, hw⟩
  refine Ev.rounds (r := true) ?_
  unfold laws_FnGrants.f
  refine ev_bindc (laws_big.val l) (ev_both (fun _ => Ev.now _) (fun h => ?_))
  have h' : l.length ≤ 1048576 := by simp at h; omega
  obtain ⟨L, a, b, t, e, hL⟩ := spec_DrawChainScopes.draw l h'
  refine Ev.bind e (Ev.bind (impl_ChainScopes.ev L a b t (by omega)) (Ev.bind (spec_ChainScopes.ev L a b t (by omega)) (ev_pos rfl ?_)))
  have fin := grants_fin L a b t hL
  have sub := chain_sub (l := L) (a := a) (b := b) (t := t)
  have facts := chain_of (l := L) (a := a) (b := b) (t := t)
  have at_ := fun u => chain_at (l := L) (a := a) (b := b) (t := t) u
  generalize hs : chainV L a b t = s at fin sub facts at_
  obtain ⟨m, m8, em, hm⟩ := sub
  show Ev (fun k => if s < 0 then some false else if s > 7 then some false else laws_FnGrants.l0 k L a b t s 0) true
  refine ev_neg (by omega) (ev_neg (by omega) ?_)
  have key : ∀ (d i : Nat), i + d = L.length → Ev (fun k => laws_FnGrants.l0 k L a b t s (i : Int)) true := by
    intro d
    induction d with
    | zero =>
      intro i hi
      refine Ev.step (fun k => by rw [laws_FnGrants.l0]) ?_
      refine ev_neg (by omega) (Ev.bind (impl_ChainEnd.ev L (by omega)) (ev_both (fun h0 => ?_) (fun h0 => ?_)))
      · exact fin
      · have g := facts h0
        have el := chainEnd_least L g.1
        obtain ⟨j, hj, ej⟩ := el.2
        have lim := grant_scopes (g.2.2.2 j hj).1
        have nt := (g.2.2.2 j hj).2.1
        generalize hE : chainEndV L = E at el ej
        refine ev_neg (by omega) ?_
        have c1 : chainV L a b E = s := at_ E h0 (fun i hi => by have := el.1 i hi; omega)
        have c2 : chainV L a b (E + 1) = 0 := chain_past (E + 1) j hj (by omega)
        rw [wrap_in (x := E + 1) (by omega) (by omega)]
        refine Ev.bind (ev_eq (impl_ChainScopes.ev L a b E (by omega)) c1) (ev_pos rfl ?_)
        refine Ev.bind (ev_eq (impl_ChainScopes.ev L a b (E + 1) (by omega)) c2) (ev_pos rfl ?_)
        exact fin
    | succ d ih =>
      intro i hi
      have hi' : i < L.length := by omega
      have next := ih (i + 1) (by omega)
      refine Ev.step (fun k => by rw [laws_FnGrants.l0]) ?_
      rw [wrap_succ (i := i) (by omega)]
      refine ev_pos (by omega) (ev_pos (by omega) (ev_pos (by rw [em]; exact hm i hi') ?_))
      refine ev_both (fun _ => next) (fun h0 => ?_)
      have q := (facts h0).2.2.2 i hi'
      exact Ev.bind (ev_eq (impl_IsGrant.ev _ _ _ _ _ _) q.1) (ev_pos rfl (ev_neg q.2.1 next))
  exact key L.length 0 (by omega)

end Go.Proofs.Ytjggdakbphjomaa.Pure
