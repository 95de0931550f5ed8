/- The program's SplitAccount returns what the reference's returns, for all arguments; no condition. Here: the row, out of the printed contract and the plain side. -/
import Derived.Test.YtjggdakbphjomaaRows
import Derived.Test.YtjggdakbphjomaaZFnExactSplitAccountx11
import Derived.Test.YtjggdakbphjomaaPureFnExactSplitAccount
import Derived.Test.YtjggdakbphjomaaOpenV
import Derived.WalkKit
import Derived.ProofKit
import Derived.OpenShut
import Derived.ShutString
import Derived.ChangeOld
import Derived.Below
import Derived.SizedLaws
namespace Go.Proofs.Ytjggdakbphjomaa.fnExactSplitAccount
open Go.ChangeShapes Go.WideShapes Go.ChangeAt Go.Proofs.Ytjggdakbphjomaa.Open Go.Proofs.Ytjggdakbphjomaa.Pure
open Go.RowKit Go.Proofs.Ytjggdakbphjomaa.ZFnExactSplitAccount Go.Proofs.YtjggdakbphjomaaW.PrintWords Go.Proofs.YtjggdakbphjomaaW.PrintLast Go.Proofs.YtjggdakbphjomaaW.PrintMore
set_option linter.unusedVariables false
set_option linter.unusedSimpArgs false
theorem own : ownKnob Try.prog.godebug = none := by kernel_rfl
theorem laidOut : laidOutB Try.prog = true := by kernel_rfl
theorem o145 : Opens Try.prog 145 k145 W145 := opens_struct Try.underlying145 (total := 4) (by kernel_rfl) (opensF_cons rfl (opens_int Try.underlying3) (off' := 1) (by kernel_rfl) (opensF_cons rfl (opens_int Try.underlying3) (off' := 2) (by kernel_rfl) (opensF_cons rfl (opens_int Try.underlying3) (off' := 3) (by kernel_rfl) (opensF_one rfl (opens_bool Try.underlying4) (by kernel_rfl))))) _ (fun y => ⟨y.1, y.2.1, y.2.2.1, y.2.2.2⟩) (fun _ => rfl)
set_option maxRecDepth 100000 in
theorem lifted (os : Os) (started : os.Started) (H : Type) (enc : TypeId × Value → H) :
    ReturnsInHanded {} Try.checked os 13 .any (Rows.fnExactSplitAccountSpec.pre6 enc Try.prog Try.f13 Rows.fnExactSplitAccountRow.domain false) (Rows.fnExactSplitAccountSpec.post enc Try.prog Try.f13 false true false false) := by
  refine returnsInHanded_of_change_sized (C := Try.checked) own started (by kernel_rfl) Try.func13
    (ChangeSpec.witness6 (enc := enc) (C := Try.checked) false ⟨#[], #[.agg #[.int .i64 0, .int .i64 0, .slice none 0 0], .slice none 0 0, .int .i64 0], []⟩ 8 (by kernel_rfl) (by kernel_rfl) (by kernel_rfl) (by kernel_rfl)) ?_
  intro W base args ds gs before hval0 hW hcnd hsz0 _
  have hval : ∀ (j : Nat) t v, Try.f13.params[j]? = some t → args[j]? = some v → Value.okWide Try.prog W .any base t v := hval0
  have hW' := hW
  obtain ⟨p, q, hA0, hV, rfl, hfz, hnd⟩ := hW
  have hA : DataW.TrodAll enc Try.prog W 0 (fun _ => true) true Try.f13.params.toList args.toList ds p := hA0
  rw [Try.params13] at hA hval
  obtain ⟨v0, vs0, d0, ds0, p0, q0, hargs, rfl, rfl, h0, r0⟩ := trodAll_cons hA
  obtain ⟨v1, vs1, d1, ds1, p1, q1, rfl, rfl, rfl, h1, r1⟩ := trodAll_cons r0
  obtain ⟨v2, vs2, d2, ds2, p2, q2, rfl, rfl, rfl, h2, r2⟩ := trodAll_cons r1
  obtain ⟨rfl, rfl, rfl⟩ := trodAll_nil r2
  obtain rfl : args = #[v0, v1, v2] := by cases args; simp_all
  obtain ⟨rfl, rfl⟩ := trodVars_none hV
  have k0_ := h0
  have lt0 : ∀ x ∈ p0, x.block < W.heap.size := by obtain ⟨m, hm⟩ := k0_; exact DataW.trod_lt m _ _ _ hm
  obtain ⟨cs0, rfl, _⟩ := okWide_struct Try.underlying72 (hval 0 72 v0 rfl rfl)
  obtain ⟨fuel0, hf0⟩ := h0
  obtain ⟨x0, hK0, hW0⟩ := (opens_flat Try.underlying72 (total := 3) (by kernel_rfl) (opensF_cons rfl (opens_int Try.underlying3) (off' := 1) (by kernel_rfl) (opensF_cons rfl (opens_int Try.underlying3) (off' := 2) (by kernel_rfl) (opensF_one rfl (opens_slice 145 Try.underlying70 o145 (by kernel_rfl)) (by kernel_rfl))))) enc W fuel0 _ _ hf0
  obtain ⟨z0, hz0⟩ : ∃ z, z = (Value.agg cs0).cells.toList := ⟨_, rfl⟩
  rw [← hz0] at hK0
  obtain ⟨a0_0, a0_1, l0_2⟩ := x0
  obtain ⟨_, _, rfl, rfl, ⟨_, _, rfl, rfl, ⟨A0_2, c0_2, rfl, hc0_2, hr0_2⟩⟩⟩ := hK0
  obtain ⟨w0_0, w0_1, w0_2⟩ := hW0
  obtain rfl : cs0 = #[.int .i64 a0_0, .int .i64 a0_1, .slice A0_2 l0_2.length c0_2] := by
    apply Array.toList_inj.1
    simpa [Value.cells] using hz0.symm
  have k1_ := h1
  have lt1 : ∀ x ∈ p1, x.block < W.heap.size := by obtain ⟨m, hm⟩ := k1_; exact DataW.trod_lt m _ _ _ hm
  obtain ⟨A1, len1, c1, rfl⟩ := okWide_slice Try.underlying46 (hval 1 46 v1 rfl rfl)
  obtain ⟨fuel1, hf1⟩ := h1
  obtain ⟨l1, ⟨B1, C1, hcs1, hc1, hr1⟩, w1⟩ := (opens_slice 3 Try.underlying46 (opens_int Try.underlying3) (by kernel_rfl)) enc W fuel1 _ _ hf1
  simp [Value.cells] at hcs1
  obtain ⟨rfl, rfl, rfl⟩ := hcs1
  have k2_ := h2
  have lt2 : ∀ x ∈ p2, x.block < W.heap.size := by obtain ⟨m, hm⟩ := k2_; exact DataW.trod_lt m _ _ _ hm
  obtain ⟨a2, rfl, rfl, rfl, w2⟩ := open_int Try.underlying3 (hval 2 3 v2 rfl rfl) h2
  clear hA0 hval0 hsz0
  obtain ⟨k, h⟩ := FnExactSplitAccount a0_0 a0_1 l0_2 l1 a2 w0_0 w0_1 w0_2 w1 w2
  refine (laws_FnExactSplitAccount.calls k a0_0 a0_1 A0_2 c0_2 l0_2 A1 c1 l1 a2 true W hr0_2 hc0_2 hr1 hc1 rfl h).mono fun e W' ⟨he, bel0⟩ => ?_
  subst he
  have bel : Below W.heap.size W W' := bel0
  exact ⟨_, rfl, _, _, _, [], _, [], hW', trodAll_mk1 (shut_bool Try.underlying4 _), (trodAll_cons_mk (Below.trod laidOut (by kernel_rfl) (of_decide_eq_true (by kernel_rfl)) k0_ bel lt0) (trodAll_cons_mk (Below.trod laidOut (by kernel_rfl) (of_decide_eq_true (by kernel_rfl)) k1_ bel lt1) (trodAll_cons_mk (Below.trod laidOut (by kernel_rfl) (of_decide_eq_true (by kernel_rfl)) k2_ bel lt2) trodAll_mk0))), rfl, bel.frame _, fun h => by cases h⟩
theorem over : Rows.fnExactSplitAccountRow.holds Try.pinned (OpenSpec.ofChange Rows.fnExactSplitAccountSpec) :=
  OpenClaim.holds_of_wide 13 Try.f13 rfl rfl rfl rfl rfl rfl rfl ⟨rfl, rfl, rfl, rfl, rfl⟩ rfl rfl rfl rfl rfl (by kernel_rfl) Try.func13 (by kernel_rfl)
    (of_decide_eq_true (by kernel_rfl)) (by unfold Func.isWrapper; first | (rw [if_pos (by decide +kernel)]; kernel_rfl) | (rw [if_neg (by decide +kernel)]; exact ⟨rfl, rfl⟩))
    (fun os started H enc _ => lifted os started H enc)
theorem proved : Rows.FnExactSplitAccountSaid := over
end Go.Proofs.Ytjggdakbphjomaa.fnExactSplitAccount
namespace Go.Proofs.Ytjggdakbphjomaa
/-- The given statement. -/
theorem fnExactSplitAccount_holds : Rows.FnExactSplitAccountSaid := fnExactSplitAccount.proved
end Go.Proofs.Ytjggdakbphjomaa
