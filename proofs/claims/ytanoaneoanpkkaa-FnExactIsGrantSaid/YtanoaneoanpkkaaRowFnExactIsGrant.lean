/- The program's IsGrant returns what the reference's returns, for all arguments; no condition. Here: the row, out of the printed contract and the plain side. -/
import Derived.Test.YtanoaneoanpkkaaRows
import Derived.Test.YtanoaneoanpkkaaPFnExactIsGrantx5
import Derived.Test.YtanoaneoanpkkaaPureFnExactIsGrant
import Derived.Test.YtanoaneoanpkkaaOpen
import Derived.WalkKit
import Derived.ProofKit
import Derived.OpenShut
import Derived.ShutString
import Derived.ChangeOld
import Derived.Below
import Derived.SizedLaws
namespace Go.Proofs.Ytanoaneoanpkkaa.fnExactIsGrant
open Go.ChangeShapes Go.WideShapes Go.ChangeAt Go.Proofs.Ytanoaneoanpkkaa.Open Go.Proofs.Ytanoaneoanpkkaa.Pure
open Go.RowKit Go.Proofs.Ytanoaneoanpkkaa.PFnExactIsGrant Go.Proofs.YtanoaneoanpkkaaW.PrintWords Go.Proofs.YtanoaneoanpkkaaW.PrintLast Go.Proofs.YtanoaneoanpkkaaW.PrintMore
set_option linter.unusedVariables false
set_option linter.unusedSimpArgs false
theorem own : ownKnob Try.prog.godebug = none := by kernel_rfl
theorem laidOut : laidOutB Try.prog = true := by kernel_rfl
set_option maxRecDepth 100000 in
theorem lifted (os : Os) (started : os.Started) (H : Type) (enc : TypeId × Value → H) :
    ReturnsInHanded {} Try.checked os 5 .any (Rows.fnExactIsGrantSpec.pre6 enc Try.prog Try.f5 Rows.fnExactIsGrantRow.domain false) (Rows.fnExactIsGrantSpec.post enc Try.prog Try.f5 false true false false) := by
  refine returnsInHanded_of_change_sized (C := Try.checked) own started (by kernel_rfl) Try.func5
    (ChangeSpec.witness6 (enc := enc) (C := Try.checked) false ⟨#[], #[.agg #[.int .i64 0, .int .i64 0, .int .i64 0, .int .i64 0, .int .i64 0, .int .i64 0]], []⟩ 8 (by kernel_rfl) (by kernel_rfl) (by kernel_rfl) (by kernel_rfl)) ?_
  intro W base args ds gs before hval0 hW hcnd hsz0 _
  have hval : ∀ (j : Nat) t v, Try.f5.params[j]? = some t → args[j]? = some v → Value.okWide Try.prog W .any base t v := hval0
  have hW' := hW
  obtain ⟨p, q, hA0, hV, rfl, hfz, hnd⟩ := hW
  have hA : DataW.TrodAll enc Try.prog W 0 (fun _ => true) true Try.f5.params.toList args.toList ds p := hA0
  rw [Try.params5] at hA hval
  obtain ⟨v0, vs0, d0, ds0, p0, q0, hargs, rfl, rfl, h0, r0⟩ := trodAll_cons hA
  obtain ⟨rfl, rfl, rfl⟩ := trodAll_nil r0
  obtain rfl : args = #[v0] := by cases args; simp_all
  obtain ⟨rfl, rfl⟩ := trodVars_none hV
  have k0_ := h0
  have lt0 : ∀ x ∈ p0, x.block < W.heap.size := by obtain ⟨m, hm⟩ := k0_; exact DataW.trod_lt m _ _ _ hm
  obtain ⟨cs0, rfl, _⟩ := okWide_struct Try.underlying43 (hval 0 43 v0 rfl rfl)
  obtain ⟨fuel0, hf0⟩ := h0
  obtain ⟨x0, hK0, hW0⟩ := (opens_flat Try.underlying43 (total := 6) (by kernel_rfl) (opensF_cons rfl (opens_int Try.underlying3) (off' := 1) (by kernel_rfl) (opensF_cons rfl (opens_int Try.underlying3) (off' := 2) (by kernel_rfl) (opensF_cons rfl (opens_int Try.underlying3) (off' := 3) (by kernel_rfl) (opensF_cons rfl (opens_int Try.underlying3) (off' := 4) (by kernel_rfl) (opensF_cons rfl (opens_int Try.underlying3) (off' := 5) (by kernel_rfl) (opensF_one rfl (opens_int Try.underlying3) (by kernel_rfl)))))))) enc W fuel0 _ _ hf0
  obtain ⟨z0, hz0⟩ : ∃ z, z = (Value.agg cs0).cells.toList := ⟨_, rfl⟩
  rw [← hz0] at hK0
  obtain ⟨a0_0, a0_1, a0_2, a0_3, a0_4, a0_5⟩ := x0
  obtain ⟨_, _, rfl, rfl, ⟨_, _, rfl, rfl, ⟨_, _, rfl, rfl, ⟨_, _, rfl, rfl, ⟨_, _, rfl, rfl, rfl⟩⟩⟩⟩⟩ := hK0
  obtain ⟨w0_0, w0_1, w0_2, w0_3, w0_4, w0_5⟩ := hW0
  obtain rfl : cs0 = #[.int .i64 a0_0, .int .i64 a0_1, .int .i64 a0_2, .int .i64 a0_3, .int .i64 a0_4, .int .i64 a0_5] := by
    apply Array.toList_inj.1
    simpa [Value.cells] using hz0.symm
  clear hA0 hval0 hsz0
  obtain ⟨k, h⟩ := FnExactIsGrant a0_0 a0_1 a0_2 a0_3 a0_4 a0_5 w0_0 w0_1 w0_2 w0_3 w0_4 w0_5
  refine (laws_FnExactIsGrant.calls k a0_0 a0_1 a0_2 a0_3 a0_4 a0_5 true W h).mono fun e W' ⟨he, bel0⟩ => ?_
  subst he
  have bel : Below W.heap.size W W' := bel0
  exact ⟨_, rfl, _, _, _, [], _, [], hW', trodAll_mk1 (shut_bool Try.underlying4 _), (trodAll_cons_mk (Below.trod laidOut (by kernel_rfl) (of_decide_eq_true (by kernel_rfl)) k0_ bel lt0) trodAll_mk0), rfl, bel.frame _, fun h => by cases h⟩
theorem over : Rows.fnExactIsGrantRow.holds Try.pinned (OpenSpec.ofChange Rows.fnExactIsGrantSpec) :=
  OpenClaim.holds_of_wide 5 Try.f5 rfl rfl rfl rfl rfl rfl rfl ⟨rfl, rfl, rfl, rfl, rfl⟩ rfl rfl rfl rfl rfl (by kernel_rfl) Try.func5 (by kernel_rfl)
    (of_decide_eq_true (by kernel_rfl)) (by unfold Func.isWrapper; first | (rw [if_pos (by decide +kernel)]; kernel_rfl) | (rw [if_neg (by decide +kernel)]; exact ⟨rfl, rfl⟩))
    (fun os started H enc _ => lifted os started H enc)
theorem proved : Rows.FnExactIsGrantSaid := over
end Go.Proofs.Ytanoaneoanpkkaa.fnExactIsGrant
namespace Go.Proofs.Ytanoaneoanpkkaa
/-- The given statement. -/
theorem fnExactIsGrant_holds : Rows.FnExactIsGrantSaid := fnExactIsGrant.proved
end Go.Proofs.Ytanoaneoanpkkaa
