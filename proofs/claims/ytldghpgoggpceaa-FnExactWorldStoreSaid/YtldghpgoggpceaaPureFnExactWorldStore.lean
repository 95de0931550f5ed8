/- The program's WorldStore returns what the reference's returns, for all arguments that the row lets in; no condition besides. Here: the plain side, over the printed functions. -/
import Derived.Test.YtldghpgoggpceaaPFnExactWorldStorex2
import Derived.Test.YtldghpgoggpceaaKit
namespace Go.Proofs.Ytldghpgoggpceaa.Pure
open Go.RowKit Go.Proofs.Ytldghpgoggpceaa.PFnExactWorldStore Go.Proofs.YtldghpgoggpceaaW.PrintWords Go.Proofs.YtldghpgoggpceaaW.PrintLast Go.Proofs.YtldghpgoggpceaaW.PrintMore Go.Proofs.Ytldghpgoggpceaa.Kit
set_option linter.unusedVariables false
set_option linter.unusedSimpArgs false

/-- What is to be proved of the printed functions. -/
def Claim : Prop := ∀ (a0 : Int), ∀ (a1 : Int), ((Lit.int .i64 a0).wf = true) → ((Lit.int .i64 a1).wf = true) → ∃ k, laws_FnExactWorldStore.f k a0 a1 = some true

def modV (p q : Int) : Int := if 1 ≤ q ∧ q ≤ 1000000000000 then p % q else 0
theorem modV_range {p q : Int} (h : 1 ≤ q) : 0 ≤ modV p q ∧ modV p q < q := by
  unfold modV
  split
  · exact ⟨Int.emod_nonneg _ (by omega), Int.emod_lt_of_pos _ (by omega)⟩
  · omega
theorem tmod_range (p : Int) {q : Int} (h : 1 ≤ q) : -q < Int.tmod p q ∧ Int.tmod p q < q := by
  have h1 := Int.tmod_lt_of_pos p (show 0 < q by omega)
  have h2 := Int.lt_tmod_of_pos p (show 0 < q by omega)
  exact ⟨h2, h1⟩
theorem tmod_add (p : Int) {q : Int} (h : 1 ≤ q) : (Int.tmod p q + q) % q = p % q := by
  have e := Int.tmod_def p q
  have : Int.tmod p q + q = p + q * (1 - p.tdiv q) := by rw [e, Int.mul_sub]; omega
  rw [this, Int.add_mul_emod_self_left]

def hashStep (h v : Int) : Int := Int.tmod (wrap64 ((wrap64 ((wrap64 (h * 1000003)) + modV v 2147483647)) + 13)) 2147483647
def hashV (l : List Int) : Int := l.foldl hashStep 11

def keyedHashV (key : Int) (l : List Int) : Int := hashV ((key :: l) ++ [key])

def orOneV (a : Int) : Int := if a = 0 then 1 else a
theorem impl_orOne.val (a : Int) : impl_orOne.f a = some (orOneV a) := by
  unfold impl_orOne.f orOneV
  split <;> rfl

def deriveKeyV (seed : Int) (l : List Int) : Int := orOneV (keyedHashV seed ([151] ++ l))

theorem spec_l1In.val (a b c : Int) : spec_l1In.f a b c = some (decide (b ≤ a ∧ a ≤ c)) := by
  unfold spec_l1In.f
  by_cases h : a ≥ b
  · rw [if_pos h]; simp only [ge_iff_le] at h; simp [h]
  · rw [if_neg h]; simp only [ge_iff_le] at h; simp [h]

theorem spec_Mod.val (p q : Int) : spec_Mod.f p q = some (modV p q) := by
  unfold spec_Mod.f modV
  rw [spec_l1In.val]
  simp only [Option.bind_some]
  by_cases h : 1 ≤ q ∧ q ≤ 1000000000000
  · have h1 := tmod_range p h.1
    have h2 := tmod_add p h.1
    rw [if_pos h, if_pos (by simp [h]), if_neg (by omega), wrap_in (by omega) (by omega), Int.tmod_eq_emod_of_nonneg (by omega), h2]
  · rw [if_neg h, if_neg (by simpa using h)]

theorem spec_Hash.ev (l : List Int) (hl : l.length < 4611686018427387904) : Ev (fun k => spec_Hash.f k l) (hashV l) := by
  unfold spec_Hash.f
  refine scan0 (xs := l) (fun k h i => spec_Hash.l0 k l h i) (fun ys h => ys.foldl hashStep h) (fun s => ?_) (fun i h s ih => ?_) 11
  · refine Ev.step (fun k => by rw [spec_Hash.l0]) ?_
    exact ev_neg (by omega) (Ev.now _)
  · refine Ev.step (fun k => by rw [spec_Hash.l0]) ?_
    refine ev_pos (by omega) (ev_pos (by omega) ?_)
    rw [rd_get h, spec_Mod.val, wrap_succ (by omega)]
    exact ih _

theorem spec_KeyedHash.ev (key : Int) (l : List Int) (hl : l.length < 17592186044400) : Ev (fun k => spec_KeyedHash.f k key l) (keyedHashV key l) := by
  unfold spec_KeyedHash.f keyedHashV
  simp only [Option.bind_some]
  refine ev_pos (by simp; omega) (ev_pos (by simp; omega) (Ev.bind (spec_Hash.ev _ (by simp; omega)) (Ev.now _)))

theorem spec_Max.val (a b : Int) : spec_Max.f a b = some (max a b) := by
  unfold spec_Max.f
  split <;> (congr 1; omega)

theorem hashStep_range (h v : Int) (h0 : 0 ≤ h) (h1 : h ≤ 2147483646) : 0 ≤ hashStep h v ∧ hashStep h v ≤ 2147483646 := by
  unfold hashStep
  have r := modV_range (p := v) (show (1 : Int) ≤ 2147483647 by omega)
  rw [wrap_in (x := h * 1000003) (by omega) (by omega), wrap_in (x := h * 1000003 + modV v 2147483647) (by omega) (by omega), wrap_in (by omega) (by omega), Int.tmod_eq_emod_of_nonneg (by omega)]
  omega
theorem hash_range (l : List Int) : 0 ≤ hashV l ∧ hashV l ≤ 2147483646 := by
  unfold hashV
  have key : ∀ (l : List Int) (h : Int), 0 ≤ h → h ≤ 2147483646 → 0 ≤ l.foldl hashStep h ∧ l.foldl hashStep h ≤ 2147483646 := by
    intro l
    induction l with
    | nil => intro h h0 h1; exact ⟨h0, h1⟩
    | cons v l ih => intro h h0 h1; have := hashStep_range h v h0 h1; exact ih _ this.1 this.2
  exact key l 11 (by omega) (by omega)

theorem keyedHash_range (key : Int) (l : List Int) : 0 ≤ keyedHashV key l ∧ keyedHashV key l ≤ 2147483646 := hash_range _

theorem spec_DeriveKey.ev (seed : Int) (l : List Int) (hl : l.length < 17592186044000) : Ev (fun k => spec_DeriveKey.f k seed l) (deriveKeyV seed l) := by
  unfold spec_DeriveKey.f deriveKeyV
  simp only [Option.bind_some]
  refine ev_pos (by simp; omega) (Ev.bind (spec_KeyedHash.ev _ _ (by simp; omega)) ?_)
  have r := keyedHash_range seed ([151] ++ l)
  refine ev_bindc (spec_Max.val _ _) (ev_const ?_)
  congr 1
  unfold orOneV
  split <;> omega

theorem spec_WorldStore.ev (s d : Int) : Ev (fun k => spec_WorldStore.f k s d) (1, d, deriveKeyV s [277, d], 0) := by
  unfold spec_WorldStore.f
  exact Ev.bind (spec_DeriveKey.ev _ _ (by simp)) (Ev.now _)

theorem impl_Mod.ev (p q : Int) : Ev (fun k => impl_Mod.f k p q) (modV p q) := by
  unfold impl_Mod.f modV
  by_cases h1 : q < 1
  · refine ev_pos h1 (Ev.step (fun k => by rw [impl_Mod.j0]) (ev_pos rfl ?_))
    rw [if_neg (show ¬ (1 ≤ q ∧ q ≤ 1000000000000) by omega)]
    exact Ev.now _
  · refine ev_neg h1 (Ev.step (fun k => by rw [impl_Mod.j0]) ?_)
    by_cases h2 : q > 1000000000000
    · refine ev_pos (by simpa using h2) ?_
      rw [if_neg (show ¬ (1 ≤ q ∧ q ≤ 1000000000000) by omega)]
      exact Ev.now _
    · refine ev_neg (by simpa using h2) (ev_neg (by omega) ?_)
      rw [if_pos (show 1 ≤ q ∧ q ≤ 1000000000000 by omega)]
      have r1 := tmod_range p (show 1 ≤ q by omega)
      have r2 := tmod_add p (show 1 ≤ q by omega)
      by_cases h3 : Int.tmod p q < 0
      · refine ev_pos h3 (ev_const ?_)
        rw [wrap_in (by omega) (by omega), ← r2, Int.emod_eq_of_lt (by omega) (by omega)]
      · refine ev_neg h3 (ev_const ?_)
        rw [← r2, Int.add_emod_right, Int.emod_eq_of_lt (by omega) (by omega)]

theorem impl_Hash.ev (l : List Int) (hl : l.length < 4611686018427387904) : Ev (fun k => impl_Hash.f k l) (hashV l) := by
  unfold impl_Hash.f
  refine scan0 (xs := l) (fun k h i => impl_Hash.l0 k h l l.length i) (fun ys h => ys.foldl hashStep h) (fun s => ?_) (fun i h s ih => ?_) 11
  · refine Ev.step (fun k => by rw [impl_Hash.l0]) ?_
    exact ev_neg (by omega) (Ev.now _)
  · refine Ev.step (fun k => by rw [impl_Hash.l0]) ?_
    refine ev_pos (by omega) (ev_pos (by omega) (ev_pos (by omega) ?_))
    rw [rd_get h, wrap_succ (by omega)]
    exact Ev.bind (impl_Mod.ev _ _) (ih _)

theorem impl_joined.ev (l : List Int) (ls : List (List Int)) (hls : ls.length < 4611686018427387904) (hl : l.length + (ls.flatten).length < 17592186044416) : Ev (fun k => impl_joined.f k l ls) (l ++ ls.flatten) := by
  unfold impl_joined.f
  simp only [Option.bind_some, List.nil_append, List.length_nil]
  refine ev_pos (by omega) ?_
  have key : ∀ (d i : Nat), i + d = ls.length → ∀ s : List Int, s.length + ((ls.drop i).flatten).length < 17592186044416 → Ev (fun k => impl_joined.l0 k s ls ls.length (i : Int)) (s ++ (ls.drop i).flatten) := by
    intro d
    induction d with
    | zero =>
      intro i hi s hs
      rw [List.drop_of_length_le (by omega)]
      refine Ev.step (fun k => by rw [impl_joined.l0]) ?_
      refine ev_neg (by omega) ?_
      simpa using Ev.now s
    | succ d ih =>
      intro i hi s hs
      have h : i < ls.length := by omega
      rw [List.drop_eq_getElem_cons h] at hs ⊢
      simp only [List.flatten_cons, List.length_append] at hs ⊢
      refine Ev.step (fun k => by rw [impl_joined.l0]) ?_
      refine ev_pos (by omega) (ev_pos (by omega) (ev_pos (by omega) ?_))
      simp only [rd_L1, getD_get h, wrap_succ (show i < 4611686018427387904 by omega)]
      refine ev_pos (by omega) ?_
      have := ih (i + 1) (by omega) (s ++ ls[i]) (by rw [List.length_append]; omega)
      rwa [List.append_assoc] at this
  exact key ls.length 0 (by omega) l hl

theorem impl_KeyedHash.ev (key : Int) (l : List Int) (hl : l.length < 17592186044400) : Ev (fun k => impl_KeyedHash.f k key l) (keyedHashV key l) := by
  unfold impl_KeyedHash.f keyedHashV
  refine Ev.bind (impl_joined.ev _ _ (by simp) (by simp; omega)) ?_
  simp only [List.flatten_cons, List.flatten_nil, List.append_nil]
  exact Ev.bind (impl_Hash.ev _ (by simp; omega)) (Ev.now _)

theorem impl_DeriveKey.ev (seed : Int) (l : List Int) (hl : l.length < 17592186044000) : Ev (fun k => impl_DeriveKey.f k seed l) (deriveKeyV seed l) := by
  unfold impl_DeriveKey.f deriveKeyV
  refine Ev.bind (impl_joined.ev _ _ (by simp) (by simp; omega)) ?_
  simp only [List.flatten_cons, List.flatten_nil, List.append_nil]
  exact Ev.bind (impl_KeyedHash.ev _ _ (by simp; omega)) (ev_bindc (impl_orOne.val _) (Ev.now _))

theorem impl_WorldStore.ev (s d : Int) : Ev (fun k => impl_WorldStore.f k s d) (1, d, deriveKeyV s [277, d], 0) := by
  unfold impl_WorldStore.f
  exact Ev.bind (impl_DeriveKey.ev _ _ (by simp)) (Ev.now _)

theorem FnExactWorldStore : Claim := by
  intro s d hs hd
  refine Ev.rounds (r := true) (g := fun k => laws_FnExactWorldStore.f k s d) ?_
  unfold laws_FnExactWorldStore.f
  refine Ev.bind (spec_WorldStore.ev s d) ?_
  refine Ev.bind (impl_WorldStore.ev s d) ?_
  refine ev_bindc (a := true) (by simp [laws_eqKeyStore.f]) ?_
  exact ev_pos rfl (Ev.now _)

end Go.Proofs.Ytldghpgoggpceaa.Pure
