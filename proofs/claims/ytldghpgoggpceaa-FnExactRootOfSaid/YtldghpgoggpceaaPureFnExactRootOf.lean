/- The program's RootOf returns what the reference's returns, for all arguments that the row lets in; no condition besides. Here: the plain side, over the printed functions. -/
import Derived.Test.YtldghpgoggpceaaPFnExactRootOfx2
import Derived.Test.YtldghpgoggpceaaKit
namespace Go.Proofs.Ytldghpgoggpceaa.Pure
open Go.RowKit Go.Proofs.Ytldghpgoggpceaa.PFnExactRootOf Go.Proofs.YtldghpgoggpceaaW.PrintWords Go.Proofs.YtldghpgoggpceaaW.PrintLast Go.Proofs.YtldghpgoggpceaaW.PrintMore Go.Proofs.Ytldghpgoggpceaa.Kit
set_option linter.unusedVariables false
set_option linter.unusedSimpArgs false

/-- What is to be proved of the printed functions. -/
def Claim : Prop := ∀ (l0 : List Int), ∀ (a1 : Int), (l0.length ≤ maxLen ∧ ∀ y_ ∈ l0, (Lit.int .i64 y_).wf = true) → ((Lit.int .i64 a1).wf = true) → ∃ k, laws_FnExactRootOf.f k l0 a1 = some true

theorem laws_toIntS.ev (l : List Int) (hl : l.length < 35184372088832) : Ev (fun k => laws_toIntS.f k l) l := by
  unfold laws_toIntS.f
  refine ev_pos (by omega) (ev_pos (by omega) ?_)
  refine ev_eq (fill (xs := l) (fun x => x) (fun k s i => laws_toIntS.l0 k l s i) (fun s hs => ?_) (fun i h s hs r ih => ?_) (List.replicate ((l.length : Int)).toNat 0) (by simp)) (by simp)
  · refine Ev.step (fun k => by rw [laws_toIntS.l0]) ?_
    exact ev_neg (by omega) (Ev.now _)
  · refine Ev.step (fun k => by rw [laws_toIntS.l0]) ?_
    refine ev_pos (by omega) (ev_pos (by omega) (ev_pos (by omega) ?_))
    rw [rd_get h, wrap_succ (by omega), Int.toNat_natCast]
    exact ih

theorem laws_eqIntS.ev (l : List Int) (hl : l.length < 4611686018427387904) : Ev (fun k => laws_eqIntS.f k l l) true := by
  unfold laws_eqIntS.f
  refine ev_pos rfl ?_
  refine scan0 (xs := l) (fun k (_ : Unit) i => laws_eqIntS.l0 k l l i) (fun _ _ => true) (fun s => ?_) (fun i h s ih => ?_) ()
  · refine Ev.step (fun k => by rw [laws_eqIntS.l0]) ?_
    exact ev_neg (by omega) (Ev.now _)
  · refine Ev.step (fun k => by rw [laws_eqIntS.l0]) ?_
    refine ev_pos (by omega) (ev_pos (by omega) (ev_pos (by omega) (ev_pos rfl ?_)))
    rw [wrap_succ (by omega)]
    exact ih ()

def modV (p q : Int) : Int := if 1 ≤ q ∧ q ≤ 1000000000000 then p % q else 0
theorem modV_range {p q : Int} (h : 1 ≤ q) : 0 ≤ modV p q ∧ modV p q < q := by
  unfold modV
  split
  · exact ⟨Int.emod_nonneg _ (by omega), Int.emod_lt_of_pos _ (by omega)⟩
  · omega
theorem tmod_range (p : Int) {q : Int} (h : 1 ≤ q) : -q < Int.tmod p q ∧ Int.tmod p q < q := by
  have h1 := Int.tmod_lt_of_pos p (show 0 < q by omega)
  have h2 := Int.lt_tmod_of_pos p (show 0 < q by omega)
  exact ⟨h2, h1⟩
theorem tmod_add (p : Int) {q : Int} (h : 1 ≤ q) : (Int.tmod p q + q) % q = p % q := by
  have e := Int.tmod_def p q
  have : Int.tmod p q + q = p + q * (1 - p.tdiv q) := by rw [e, Int.mul_sub]; omega
  rw [this, Int.add_mul_emod_self_left]

def hashStep (h v : Int) : Int := Int.tmod (wrap64 ((wrap64 ((wrap64 (h * 1000003)) + modV v 2147483647)) + 13)) 2147483647
def hashV (l : List Int) : Int := l.foldl hashStep 11

def rootV (l : List Int) : Int := l.foldl (fun h r => hashV [269, h, r]) 0

theorem spec_l1In.val (a b c : Int) : spec_l1In.f a b c = some (decide (b ≤ a ∧ a ≤ c)) := by
  unfold spec_l1In.f
  by_cases h : a ≥ b
  · rw [if_pos h]; simp only [ge_iff_le] at h; simp [h]
  · rw [if_neg h]; simp only [ge_iff_le] at h; simp [h]

theorem spec_Mod.val (p q : Int) : spec_Mod.f p q = some (modV p q) := by
  unfold spec_Mod.f modV
  rw [spec_l1In.val]
  simp only [Option.bind_some]
  by_cases h : 1 ≤ q ∧ q ≤ 1000000000000
  · have h1 := tmod_range p h.1
    have h2 := tmod_add p h.1
    rw [if_pos h, if_pos (by simp [h]), if_neg (by omega), wrap_in (by omega) (by omega), Int.tmod_eq_emod_of_nonneg (by omega), h2]
  · rw [if_neg h, if_neg (by simpa using h)]

theorem spec_Hash.ev (l : List Int) (hl : l.length < 4611686018427387904) : Ev (fun k => spec_Hash.f k l) (hashV l) := by
  unfold spec_Hash.f
  refine scan0 (xs := l) (fun k h i => spec_Hash.l0 k l h i) (fun ys h => ys.foldl hashStep h) (fun s => ?_) (fun i h s ih => ?_) 11
  · refine Ev.step (fun k => by rw [spec_Hash.l0]) ?_
    exact ev_neg (by omega) (Ev.now _)
  · refine Ev.step (fun k => by rw [spec_Hash.l0]) ?_
    refine ev_pos (by omega) (ev_pos (by omega) ?_)
    rw [rd_get h, spec_Mod.val, wrap_succ (by omega)]
    exact ih _

theorem spec_RootOf.ev (l : List Int) (n : Int) (hl : l.length < 4611686018427387904) : Ev (fun k => spec_RootOf.f k l n) (rootV (l.take n.toNat)) := by
  unfold spec_RootOf.f
  have key : ∀ (d i : Nat), i + d = (l.take n.toNat).length → ∀ h, Ev (fun k => spec_RootOf.l0 k l n h (i : Int)) (((l.take n.toNat).drop i).foldl (fun h r => hashV [269, h, r]) h) := by
    intro d
    induction d with
    | zero =>
      intro i hi h
      have e : i = (l.take n.toNat).length := by omega
      rw [List.drop_of_length_le (by omega)]
      rw [List.length_take] at e
      refine Ev.step (fun k => by rw [spec_RootOf.l0]) ?_
      refine ev_both (fun h1 => ev_both (fun h2 => by omega) (fun _ => Ev.now _)) (fun _ => Ev.now _)
    | succ d ih =>
      intro i hi h
      have hi2 := hi
      rw [List.length_take] at hi2
      have hx : i < (l.take n.toNat).length := by omega
      rw [List.drop_eq_getElem_cons hx]
      refine Ev.step (fun k => by rw [spec_RootOf.l0]) ?_
      refine ev_pos (by omega) (ev_pos (by omega) (ev_pos (by omega) ?_))
      rw [rd_get (by omega), wrap_succ (by omega)]
      refine Ev.bind (spec_Hash.ev _ (by simp)) ?_
      have := ih (i + 1) (by omega) (hashV [269, h, l[i]])
      simpa using this
  have := key (l.take n.toNat).length 0 (by omega) 0
  simpa [rootV] using this

theorem impl_Mod.ev (p q : Int) : Ev (fun k => impl_Mod.f k p q) (modV p q) := by
  unfold impl_Mod.f modV
  by_cases h1 : q < 1
  · refine ev_pos h1 (Ev.step (fun k => by rw [impl_Mod.j0]) (ev_pos rfl ?_))
    rw [if_neg (show ¬ (1 ≤ q ∧ q ≤ 1000000000000) by omega)]
    exact Ev.now _
  · refine ev_neg h1 (Ev.step (fun k => by rw [impl_Mod.j0]) ?_)
    by_cases h2 : q > 1000000000000
    · refine ev_pos (by simpa using h2) ?_
      rw [if_neg (show ¬ (1 ≤ q ∧ q ≤ 1000000000000) by omega)]
      exact Ev.now _
    · refine ev_neg (by simpa using h2) (ev_neg (by omega) ?_)
      rw [if_pos (show 1 ≤ q ∧ q ≤ 1000000000000 by omega)]
      have r1 := tmod_range p (show 1 ≤ q by omega)
      have r2 := tmod_add p (show 1 ≤ q by omega)
      by_cases h3 : Int.tmod p q < 0
      · refine ev_pos h3 (ev_const ?_)
        rw [wrap_in (by omega) (by omega), ← r2, Int.emod_eq_of_lt (by omega) (by omega)]
      · refine ev_neg h3 (ev_const ?_)
        rw [← r2, Int.add_emod_right, Int.emod_eq_of_lt (by omega) (by omega)]

theorem impl_Hash.ev (l : List Int) (hl : l.length < 4611686018427387904) : Ev (fun k => impl_Hash.f k l) (hashV l) := by
  unfold impl_Hash.f
  refine scan0 (xs := l) (fun k h i => impl_Hash.l0 k h l l.length i) (fun ys h => ys.foldl hashStep h) (fun s => ?_) (fun i h s ih => ?_) 11
  · refine Ev.step (fun k => by rw [impl_Hash.l0]) ?_
    exact ev_neg (by omega) (Ev.now _)
  · refine Ev.step (fun k => by rw [impl_Hash.l0]) ?_
    refine ev_pos (by omega) (ev_pos (by omega) (ev_pos (by omega) ?_))
    rw [rd_get h, wrap_succ (by omega)]
    exact Ev.bind (impl_Mod.ev _ _) (ih _)

theorem impl_RootOf.ev (l : List Int) (n : Int) (hl : l.length < 4611686018427387904) : Ev (fun k => impl_RootOf.f k l n) (rootV (l.take n.toNat)) := by
  unfold impl_RootOf.f
  have key : ∀ (d i : Nat), i + d = (l.take n.toNat).length → ∀ h, Ev (fun k => impl_RootOf.l0 k l n h (i : Int)) (((l.take n.toNat).drop i).foldl (fun h r => hashV [269, h, r]) h) := by
    intro d
    induction d with
    | zero =>
      intro i hi h
      have e : i = (l.take n.toNat).length := by omega
      rw [List.drop_of_length_le (by omega)]
      rw [List.length_take] at e
      refine Ev.step (fun k => by rw [impl_RootOf.l0]) ?_
      refine ev_neg ?_ (Ev.now _)
      unfold mn; split <;> omega
    | succ d ih =>
      intro i hi h
      have hi2 := hi
      rw [List.length_take] at hi2
      have hx : i < (l.take n.toNat).length := by omega
      rw [List.drop_eq_getElem_cons hx]
      refine Ev.step (fun k => by rw [impl_RootOf.l0]) ?_
      refine ev_pos (by unfold mn; split <;> omega) (ev_pos (by omega) (ev_pos (by omega) ?_))
      rw [rd_get (by omega), wrap_succ (by omega)]
      refine Ev.bind (impl_Hash.ev _ (by simp)) ?_
      have := ih (i + 1) (by omega) (hashV [269, h, l[i]])
      simpa using this
  have := key (l.take n.toNat).length 0 (by omega) 0
  simpa [rootV] using this

theorem FnExactRootOf : Claim := by
  intro l n ⟨hm, hw⟩ hn
  refine Ev.rounds (r := true) (g := fun k => laws_FnExactRootOf.f k l n) ?_
  unfold laws_FnExactRootOf.f
  refine ev_both (fun _ => Ev.now _) (fun h => ?_)
  have h1 : l.length ≤ 1048576 := by omega
  refine Ev.bind (laws_toIntS.ev l (by omega)) ?_
  refine Ev.bind (spec_RootOf.ev l n (by omega)) ?_
  refine Ev.bind (laws_toIntS.ev l (by omega)) ?_
  refine Ev.bind (impl_RootOf.ev l n (by omega)) ?_
  refine ev_pos rfl ?_
  refine Ev.bind (laws_toIntS.ev l (by omega)) ?_
  refine Ev.bind (laws_eqIntS.ev l (by omega)) ?_
  exact ev_pos rfl (Ev.now _)

end Go.Proofs.Ytldghpgoggpceaa.Pure
