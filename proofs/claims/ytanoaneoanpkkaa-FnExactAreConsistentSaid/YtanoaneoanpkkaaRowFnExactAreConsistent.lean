/- The program's AreConsistent returns what the reference's returns, for all arguments; no condition. Here: the row, out of the printed contract and the plain side. -/
import Derived.Test.YtanoaneoanpkkaaRows
import Derived.Test.YtanoaneoanpkkaaPFnExactAreConsistentx6
import Derived.Test.YtanoaneoanpkkaaPureFnExactAreConsistent
import Derived.Test.YtanoaneoanpkkaaOpen
import Derived.WalkKit
import Derived.ProofKit
import Derived.OpenShut
import Derived.ShutString
import Derived.ChangeOld
import Derived.Below
import Derived.SizedLaws
namespace Go.Proofs.Ytanoaneoanpkkaa.fnExactAreConsistent
open Go.ChangeShapes Go.WideShapes Go.ChangeAt Go.Proofs.Ytanoaneoanpkkaa.Open Go.Proofs.Ytanoaneoanpkkaa.Pure
open Go.RowKit Go.Proofs.Ytanoaneoanpkkaa.PFnExactAreConsistent Go.Proofs.YtanoaneoanpkkaaW.PrintWords Go.Proofs.YtanoaneoanpkkaaW.PrintLast Go.Proofs.YtanoaneoanpkkaaW.PrintMore
set_option linter.unusedVariables false
set_option linter.unusedSimpArgs false
theorem own : ownKnob Try.prog.godebug = none := by kernel_rfl
theorem laidOut : laidOutB Try.prog = true := by kernel_rfl
set_option maxRecDepth 100000 in
theorem lifted (os : Os) (started : os.Started) (H : Type) (enc : TypeId × Value → H) :
    ReturnsInHanded {} Try.checked os 14 .any (Rows.fnExactAreConsistentSpec.pre6 enc Try.prog Try.f14 Rows.fnExactAreConsistentRow.domain false) (Rows.fnExactAreConsistentSpec.post enc Try.prog Try.f14 false true false false) := by
  refine returnsInHanded_of_change_sized (C := Try.checked) own started (by kernel_rfl) Try.func14
    (ChangeSpec.witness6 (enc := enc) (C := Try.checked) false ⟨#[], #[.agg #[.int .i64 0, .int .i64 0, .int .i64 0, .int .i64 0], .agg #[.int .i64 0, .int .i64 0, .int .i64 0, .int .i64 0], .agg #[.slice none 0 0]], []⟩ 8 (by kernel_rfl) (by kernel_rfl) (by kernel_rfl) (by kernel_rfl)) ?_
  intro W base args ds gs before hval0 hW hcnd hsz0 _
  have hval : ∀ (j : Nat) t v, Try.f14.params[j]? = some t → args[j]? = some v → Value.okWide Try.prog W .any base t v := hval0
  have hW' := hW
  obtain ⟨p, q, hA0, hV, rfl, hfz, hnd⟩ := hW
  have hA : DataW.TrodAll enc Try.prog W 0 (fun _ => true) true Try.f14.params.toList args.toList ds p := hA0
  rw [Try.params14] at hA hval
  obtain ⟨v0, vs0, d0, ds0, p0, q0, hargs, rfl, rfl, h0, r0⟩ := trodAll_cons hA
  obtain ⟨v1, vs1, d1, ds1, p1, q1, rfl, rfl, rfl, h1, r1⟩ := trodAll_cons r0
  obtain ⟨v2, vs2, d2, ds2, p2, q2, rfl, rfl, rfl, h2, r2⟩ := trodAll_cons r1
  obtain ⟨rfl, rfl, rfl⟩ := trodAll_nil r2
  obtain rfl : args = #[v0, v1, v2] := by cases args; simp_all
  obtain ⟨rfl, rfl⟩ := trodVars_none hV
  have k0_ := h0
  have lt0 : ∀ x ∈ p0, x.block < W.heap.size := by obtain ⟨m, hm⟩ := k0_; exact DataW.trod_lt m _ _ _ hm
  obtain ⟨cs0, rfl, _⟩ := okWide_struct Try.underlying38 (hval 0 38 v0 rfl rfl)
  obtain ⟨fuel0, hf0⟩ := h0
  obtain ⟨x0, hK0, hW0⟩ := (opens_flat Try.underlying38 (total := 4) (by kernel_rfl) (opensF_cons rfl (opens_int Try.underlying3) (off' := 1) (by kernel_rfl) (opensF_cons rfl (opens_int Try.underlying3) (off' := 2) (by kernel_rfl) (opensF_cons rfl (opens_int Try.underlying3) (off' := 3) (by kernel_rfl) (opensF_one rfl (opens_int Try.underlying3) (by kernel_rfl)))))) enc W fuel0 _ _ hf0
  obtain ⟨z0, hz0⟩ : ∃ z, z = (Value.agg cs0).cells.toList := ⟨_, rfl⟩
  rw [← hz0] at hK0
  obtain ⟨a0_0, a0_1, a0_2, a0_3⟩ := x0
  obtain ⟨_, _, rfl, rfl, ⟨_, _, rfl, rfl, ⟨_, _, rfl, rfl, rfl⟩⟩⟩ := hK0
  obtain ⟨w0_0, w0_1, w0_2, w0_3⟩ := hW0
  obtain rfl : cs0 = #[.int .i64 a0_0, .int .i64 a0_1, .int .i64 a0_2, .int .i64 a0_3] := by
    apply Array.toList_inj.1
    simpa [Value.cells] using hz0.symm
  have k1_ := h1
  have lt1 : ∀ x ∈ p1, x.block < W.heap.size := by obtain ⟨m, hm⟩ := k1_; exact DataW.trod_lt m _ _ _ hm
  obtain ⟨cs1, rfl, _⟩ := okWide_struct Try.underlying38 (hval 1 38 v1 rfl rfl)
  obtain ⟨fuel1, hf1⟩ := h1
  obtain ⟨x1, hK1, hW1⟩ := (opens_flat Try.underlying38 (total := 4) (by kernel_rfl) (opensF_cons rfl (opens_int Try.underlying3) (off' := 1) (by kernel_rfl) (opensF_cons rfl (opens_int Try.underlying3) (off' := 2) (by kernel_rfl) (opensF_cons rfl (opens_int Try.underlying3) (off' := 3) (by kernel_rfl) (opensF_one rfl (opens_int Try.underlying3) (by kernel_rfl)))))) enc W fuel1 _ _ hf1
  obtain ⟨z1, hz1⟩ : ∃ z, z = (Value.agg cs1).cells.toList := ⟨_, rfl⟩
  rw [← hz1] at hK1
  obtain ⟨a1_0, a1_1, a1_2, a1_3⟩ := x1
  obtain ⟨_, _, rfl, rfl, ⟨_, _, rfl, rfl, ⟨_, _, rfl, rfl, rfl⟩⟩⟩ := hK1
  obtain ⟨w1_0, w1_1, w1_2, w1_3⟩ := hW1
  obtain rfl : cs1 = #[.int .i64 a1_0, .int .i64 a1_1, .int .i64 a1_2, .int .i64 a1_3] := by
    apply Array.toList_inj.1
    simpa [Value.cells] using hz1.symm
  have k2_ := h2
  have lt2 : ∀ x ∈ p2, x.block < W.heap.size := by obtain ⟨m, hm⟩ := k2_; exact DataW.trod_lt m _ _ _ hm
  obtain ⟨cs2, rfl, _⟩ := okWide_struct Try.underlying94 (hval 2 94 v2 rfl rfl)
  obtain ⟨fuel2, hf2⟩ := h2
  obtain ⟨x2, hK2, hW2⟩ := (opens_flat Try.underlying94 (total := 1) (by kernel_rfl) (opensF_one rfl (opens_slice 3 Try.underlying35 (opens_int Try.underlying3) (by kernel_rfl)) (by kernel_rfl))) enc W fuel2 _ _ hf2
  obtain ⟨z2, hz2⟩ : ∃ z, z = (Value.agg cs2).cells.toList := ⟨_, rfl⟩
  rw [← hz2] at hK2
  obtain ⟨l2_0, rfl⟩ : ∃ y, y = x2 := ⟨_, rfl⟩
  obtain ⟨A2_0, c2_0, rfl, hc2_0, hr2_0⟩ := hK2
  have w2_0 := hW2
  obtain rfl : cs2 = #[.slice A2_0 l2_0.length c2_0] := by
    apply Array.toList_inj.1
    simpa [Value.cells] using hz2.symm
  clear hA0 hval0 hsz0
  obtain ⟨k, h⟩ := FnExactAreConsistent a0_0 a0_1 a0_2 a0_3 a1_0 a1_1 a1_2 a1_3 l2_0 w0_0 w0_1 w0_2 w0_3 w1_0 w1_1 w1_2 w1_3 w2_0
  refine (laws_FnExactAreConsistent.calls k a0_0 a0_1 a0_2 a0_3 a1_0 a1_1 a1_2 a1_3 A2_0 c2_0 l2_0 true W hr2_0 hc2_0 h).mono fun e W' ⟨he, bel0⟩ => ?_
  subst he
  have bel : Below W.heap.size W W' := bel0
  exact ⟨_, rfl, _, _, _, [], _, [], hW', trodAll_mk1 (shut_bool Try.underlying4 _), (trodAll_cons_mk (Below.trod laidOut (by kernel_rfl) (of_decide_eq_true (by kernel_rfl)) k0_ bel lt0) (trodAll_cons_mk (Below.trod laidOut (by kernel_rfl) (of_decide_eq_true (by kernel_rfl)) k1_ bel lt1) (trodAll_cons_mk (Below.trod laidOut (by kernel_rfl) (of_decide_eq_true (by kernel_rfl)) k2_ bel lt2) trodAll_mk0))), rfl, bel.frame _, fun h => by cases h⟩
theorem over : Rows.fnExactAreConsistentRow.holds Try.pinned (OpenSpec.ofChange Rows.fnExactAreConsistentSpec) :=
  OpenClaim.holds_of_wide 14 Try.f14 rfl rfl rfl rfl rfl rfl rfl ⟨rfl, rfl, rfl, rfl, rfl⟩ rfl rfl rfl rfl rfl (by kernel_rfl) Try.func14 (by kernel_rfl)
    (of_decide_eq_true (by kernel_rfl)) (by unfold Func.isWrapper; first | (rw [if_pos (by decide +kernel)]; kernel_rfl) | (rw [if_neg (by decide +kernel)]; exact ⟨rfl, rfl⟩))
    (fun os started H enc _ => lifted os started H enc)
theorem proved : Rows.FnExactAreConsistentSaid := over
end Go.Proofs.Ytanoaneoanpkkaa.fnExactAreConsistent
namespace Go.Proofs.Ytanoaneoanpkkaa
/-- The given statement. -/
theorem fnExactAreConsistent_holds : Rows.FnExactAreConsistentSaid := fnExactAreConsistent.proved
end Go.Proofs.Ytanoaneoanpkkaa
