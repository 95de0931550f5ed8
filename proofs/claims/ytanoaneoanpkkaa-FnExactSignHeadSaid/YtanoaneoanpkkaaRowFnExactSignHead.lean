/- The program's SignHead returns what the reference's returns, for all arguments; no condition. Here: the row, out of the printed contract and the plain side. -/
import Derived.Test.YtanoaneoanpkkaaRows
import Derived.Test.YtanoaneoanpkkaaZFnExactSignHeadx6
import Derived.Test.YtanoaneoanpkkaaPureFnExactSignHead
import Derived.Test.YtanoaneoanpkkaaOpenV
import Derived.WalkKit
import Derived.ProofKit
import Derived.OpenShut
import Derived.ShutString
import Derived.ChangeOld
import Derived.Below
import Derived.SizedLaws
namespace Go.Proofs.Ytanoaneoanpkkaa.fnExactSignHead
open Go.ChangeShapes Go.WideShapes Go.ChangeAt Go.Proofs.Ytanoaneoanpkkaa.Open Go.Proofs.Ytanoaneoanpkkaa.Pure
open Go.RowKit Go.Proofs.Ytanoaneoanpkkaa.ZFnExactSignHead Go.Proofs.YtanoaneoanpkkaaW.PrintWords Go.Proofs.YtanoaneoanpkkaaW.PrintLast Go.Proofs.YtanoaneoanpkkaaW.PrintMore
set_option linter.unusedVariables false
set_option linter.unusedSimpArgs false
theorem own : ownKnob Try.prog.godebug = none := by kernel_rfl
theorem laidOut : laidOutB Try.prog = true := by kernel_rfl
set_option maxRecDepth 100000 in
theorem lifted (os : Os) (started : os.Started) (H : Type) (enc : TypeId × Value → H) :
    ReturnsInHanded {} Try.checked os 11 .any (Rows.fnExactSignHeadSpec.pre6 enc Try.prog Try.f11 Rows.fnExactSignHeadRow.domain false) (Rows.fnExactSignHeadSpec.post enc Try.prog Try.f11 false true false false) := by
  refine returnsInHanded_of_change_sized (C := Try.checked) own started (by kernel_rfl) Try.func11
    (ChangeSpec.witness6 (enc := enc) (C := Try.checked) false ⟨#[], #[.agg #[.int .i64 0, .int .i64 0, .int .i64 0], .agg #[.slice none 0 0]], []⟩ 8 (by kernel_rfl) (by kernel_rfl) (by kernel_rfl) (by kernel_rfl)) ?_
  intro W base args ds gs before hval0 hW hcnd hsz0 _
  have hval : ∀ (j : Nat) t v, Try.f11.params[j]? = some t → args[j]? = some v → Value.okWide Try.prog W .any base t v := hval0
  have hW' := hW
  obtain ⟨p, q, hA0, hV, rfl, hfz, hnd⟩ := hW
  have hA : DataW.TrodAll enc Try.prog W 0 (fun _ => true) true Try.f11.params.toList args.toList ds p := hA0
  rw [Try.params11] at hA hval
  obtain ⟨v0, vs0, d0, ds0, p0, q0, hargs, rfl, rfl, h0, r0⟩ := trodAll_cons hA
  obtain ⟨v1, vs1, d1, ds1, p1, q1, rfl, rfl, rfl, h1, r1⟩ := trodAll_cons r0
  obtain ⟨rfl, rfl, rfl⟩ := trodAll_nil r1
  obtain rfl : args = #[v0, v1] := by cases args; simp_all
  obtain ⟨rfl, rfl⟩ := trodVars_none hV
  have k0_ := h0
  have lt0 : ∀ x ∈ p0, x.block < W.heap.size := by obtain ⟨m, hm⟩ := k0_; exact DataW.trod_lt m _ _ _ hm
  obtain ⟨cs0, rfl, _⟩ := okWide_struct Try.underlying92 (hval 0 92 v0 rfl rfl)
  obtain ⟨fuel0, hf0⟩ := h0
  obtain ⟨x0, hK0, hW0⟩ := (opens_flat Try.underlying92 (total := 3) (by kernel_rfl) (opensF_cons rfl (opens_int Try.underlying3) (off' := 1) (by kernel_rfl) (opensF_cons rfl (opens_int Try.underlying3) (off' := 2) (by kernel_rfl) (opensF_one rfl (opens_int Try.underlying3) (by kernel_rfl))))) enc W fuel0 _ _ hf0
  obtain ⟨z0, hz0⟩ : ∃ z, z = (Value.agg cs0).cells.toList := ⟨_, rfl⟩
  rw [← hz0] at hK0
  obtain ⟨a0_0, a0_1, a0_2⟩ := x0
  obtain ⟨_, _, rfl, rfl, ⟨_, _, rfl, rfl, rfl⟩⟩ := hK0
  obtain ⟨w0_0, w0_1, w0_2⟩ := hW0
  obtain rfl : cs0 = #[.int .i64 a0_0, .int .i64 a0_1, .int .i64 a0_2] := by
    apply Array.toList_inj.1
    simpa [Value.cells] using hz0.symm
  have k1_ := h1
  have lt1 : ∀ x ∈ p1, x.block < W.heap.size := by obtain ⟨m, hm⟩ := k1_; exact DataW.trod_lt m _ _ _ hm
  obtain ⟨cs1, rfl, _⟩ := okWide_struct Try.underlying94 (hval 1 94 v1 rfl rfl)
  obtain ⟨fuel1, hf1⟩ := h1
  obtain ⟨x1, hK1, hW1⟩ := (opens_flat Try.underlying94 (total := 1) (by kernel_rfl) (opensF_one rfl (opens_slice 3 Try.underlying35 (opens_int Try.underlying3) (by kernel_rfl)) (by kernel_rfl))) enc W fuel1 _ _ hf1
  obtain ⟨z1, hz1⟩ : ∃ z, z = (Value.agg cs1).cells.toList := ⟨_, rfl⟩
  rw [← hz1] at hK1
  obtain ⟨l1_0, rfl⟩ : ∃ y, y = x1 := ⟨_, rfl⟩
  obtain ⟨A1_0, c1_0, rfl, hc1_0, hr1_0⟩ := hK1
  have w1_0 := hW1
  obtain rfl : cs1 = #[.slice A1_0 l1_0.length c1_0] := by
    apply Array.toList_inj.1
    simpa [Value.cells] using hz1.symm
  clear hA0 hval0 hsz0
  obtain ⟨k, h⟩ := FnExactSignHead a0_0 a0_1 a0_2 l1_0 w0_0 w0_1 w0_2 w1_0
  refine (laws_FnExactSignHead.calls k a0_0 a0_1 a0_2 A1_0 c1_0 l1_0 true W hr1_0 hc1_0 rfl h).mono fun e W' ⟨he, bel0⟩ => ?_
  subst he
  have bel : Below W.heap.size W W' := bel0
  exact ⟨_, rfl, _, _, _, [], _, [], hW', trodAll_mk1 (shut_bool Try.underlying4 _), (trodAll_cons_mk (Below.trod laidOut (by kernel_rfl) (of_decide_eq_true (by kernel_rfl)) k0_ bel lt0) (trodAll_cons_mk (Below.trod laidOut (by kernel_rfl) (of_decide_eq_true (by kernel_rfl)) k1_ bel lt1) trodAll_mk0)), rfl, bel.frame _, fun h => by cases h⟩
theorem over : Rows.fnExactSignHeadRow.holds Try.pinned (OpenSpec.ofChange Rows.fnExactSignHeadSpec) :=
  OpenClaim.holds_of_wide 11 Try.f11 rfl rfl rfl rfl rfl rfl rfl ⟨rfl, rfl, rfl, rfl, rfl⟩ rfl rfl rfl rfl rfl (by kernel_rfl) Try.func11 (by kernel_rfl)
    (of_decide_eq_true (by kernel_rfl)) (by unfold Func.isWrapper; first | (rw [if_pos (by decide +kernel)]; kernel_rfl) | (rw [if_neg (by decide +kernel)]; exact ⟨rfl, rfl⟩))
    (fun os started H enc _ => lifted os started H enc)
theorem proved : Rows.FnExactSignHeadSaid := over
end Go.Proofs.Ytanoaneoanpkkaa.fnExactSignHead
namespace Go.Proofs.Ytanoaneoanpkkaa
/-- The given statement. -/
theorem fnExactSignHead_holds : Rows.FnExactSignHeadSaid := fnExactSignHead.proved
end Go.Proofs.Ytanoaneoanpkkaa
