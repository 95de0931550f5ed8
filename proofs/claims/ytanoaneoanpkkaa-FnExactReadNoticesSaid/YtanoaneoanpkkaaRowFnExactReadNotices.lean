/- The program's ReadNotices returns what the reference's returns, for all arguments; no condition. Here: the row, out of the printed contract and the plain side. -/
import Derived.Test.YtanoaneoanpkkaaRows
import Derived.Test.YtanoaneoanpkkaaZFnExactReadNoticesx3
import Derived.Test.YtanoaneoanpkkaaPureFnExactReadNotices
import Derived.Test.YtanoaneoanpkkaaOpenV
import Derived.WalkKit
import Derived.ProofKit
import Derived.OpenShut
import Derived.ShutString
import Derived.ChangeOld
import Derived.Below
import Derived.SizedLaws
namespace Go.Proofs.Ytanoaneoanpkkaa.fnExactReadNotices
open Go.ChangeShapes Go.WideShapes Go.ChangeAt Go.Proofs.Ytanoaneoanpkkaa.Open Go.Proofs.Ytanoaneoanpkkaa.Pure
open Go.RowKit Go.Proofs.Ytanoaneoanpkkaa.ZFnExactReadNotices Go.Proofs.YtanoaneoanpkkaaW.PrintWords Go.Proofs.YtanoaneoanpkkaaW.PrintLast Go.Proofs.YtanoaneoanpkkaaW.PrintMore
set_option linter.unusedVariables false
set_option linter.unusedSimpArgs false
theorem own : ownKnob Try.prog.godebug = none := by kernel_rfl
theorem laidOut : laidOutB Try.prog = true := by kernel_rfl
theorem o153 : Opens Try.prog 153 k153 W153 := opens_struct Try.underlying153 (total := 4) (by kernel_rfl) (opensF_cons rfl (opens_int Try.underlying3) (off' := 1) (by kernel_rfl) (opensF_cons rfl (opens_int Try.underlying3) (off' := 2) (by kernel_rfl) (opensF_cons rfl (opens_int Try.underlying3) (off' := 3) (by kernel_rfl) (opensF_one rfl (opens_bool Try.underlying4) (by kernel_rfl))))) _ (fun y => ⟨y.1, y.2.1, y.2.2.1, y.2.2.2⟩) (fun _ => rfl)
set_option maxRecDepth 100000 in
theorem lifted (os : Os) (started : os.Started) (H : Type) (enc : TypeId × Value → H) :
    ReturnsInHanded {} Try.checked os 7 .any (Rows.fnExactReadNoticesSpec.pre6 enc Try.prog Try.f7 Rows.fnExactReadNoticesRow.domain false) (Rows.fnExactReadNoticesSpec.post enc Try.prog Try.f7 false true false false) := by
  refine returnsInHanded_of_change_sized (C := Try.checked) own started (by kernel_rfl) Try.func7
    (ChangeSpec.witness6 (enc := enc) (C := Try.checked) false ⟨#[], #[.agg #[.slice none 0 0]], []⟩ 8 (by kernel_rfl) (by kernel_rfl) (by kernel_rfl) (by kernel_rfl)) ?_
  intro W base args ds gs before hval0 hW hcnd hsz0 _
  have hval : ∀ (j : Nat) t v, Try.f7.params[j]? = some t → args[j]? = some v → Value.okWide Try.prog W .any base t v := hval0
  have hW' := hW
  obtain ⟨p, q, hA0, hV, rfl, hfz, hnd⟩ := hW
  have hA : DataW.TrodAll enc Try.prog W 0 (fun _ => true) true Try.f7.params.toList args.toList ds p := hA0
  rw [Try.params7] at hA hval
  obtain ⟨v0, vs0, d0, ds0, p0, q0, hargs, rfl, rfl, h0, r0⟩ := trodAll_cons hA
  obtain ⟨rfl, rfl, rfl⟩ := trodAll_nil r0
  obtain rfl : args = #[v0] := by cases args; simp_all
  obtain ⟨rfl, rfl⟩ := trodVars_none hV
  have k0_ := h0
  have lt0 : ∀ x ∈ p0, x.block < W.heap.size := by obtain ⟨m, hm⟩ := k0_; exact DataW.trod_lt m _ _ _ hm
  obtain ⟨cs0, rfl, _⟩ := okWide_struct Try.underlying61 (hval 0 61 v0 rfl rfl)
  obtain ⟨fuel0, hf0⟩ := h0
  obtain ⟨x0, hK0, hW0⟩ := (opens_flat Try.underlying61 (total := 1) (by kernel_rfl) (opensF_one rfl (opens_slice 153 Try.underlying59 o153 (by kernel_rfl)) (by kernel_rfl))) enc W fuel0 _ _ hf0
  obtain ⟨z0, hz0⟩ : ∃ z, z = (Value.agg cs0).cells.toList := ⟨_, rfl⟩
  rw [← hz0] at hK0
  obtain ⟨l0_0, rfl⟩ : ∃ y, y = x0 := ⟨_, rfl⟩
  obtain ⟨A0_0, c0_0, rfl, hc0_0, hr0_0⟩ := hK0
  have w0_0 := hW0
  obtain rfl : cs0 = #[.slice A0_0 l0_0.length c0_0] := by
    apply Array.toList_inj.1
    simpa [Value.cells] using hz0.symm
  clear hA0 hval0 hsz0
  obtain ⟨k, h⟩ := FnExactReadNotices l0_0 w0_0
  refine (laws_FnExactReadNotices.calls k A0_0 c0_0 l0_0 true W hr0_0 hc0_0 rfl h).mono fun e W' ⟨he, bel0⟩ => ?_
  subst he
  have bel : Below W.heap.size W W' := bel0
  exact ⟨_, rfl, _, _, _, [], _, [], hW', trodAll_mk1 (shut_bool Try.underlying4 _), (trodAll_cons_mk (Below.trod laidOut (by kernel_rfl) (of_decide_eq_true (by kernel_rfl)) k0_ bel lt0) trodAll_mk0), rfl, bel.frame _, fun h => by cases h⟩
theorem over : Rows.fnExactReadNoticesRow.holds Try.pinned (OpenSpec.ofChange Rows.fnExactReadNoticesSpec) :=
  OpenClaim.holds_of_wide 7 Try.f7 rfl rfl rfl rfl rfl rfl rfl ⟨rfl, rfl, rfl, rfl, rfl⟩ rfl rfl rfl rfl rfl (by kernel_rfl) Try.func7 (by kernel_rfl)
    (of_decide_eq_true (by kernel_rfl)) (by unfold Func.isWrapper; first | (rw [if_pos (by decide +kernel)]; kernel_rfl) | (rw [if_neg (by decide +kernel)]; exact ⟨rfl, rfl⟩))
    (fun os started H enc _ => lifted os started H enc)
theorem proved : Rows.FnExactReadNoticesSaid := over
end Go.Proofs.Ytanoaneoanpkkaa.fnExactReadNotices
namespace Go.Proofs.Ytanoaneoanpkkaa
/-- The given statement. -/
theorem fnExactReadNotices_holds : Rows.FnExactReadNoticesSaid := fnExactReadNotices.proved
end Go.Proofs.Ytanoaneoanpkkaa
