/- FnExactDepthBounds: for every sounding, the law answers true: the program's DepthBounds returns what the reference's returns; no condition. -/
import Derived.Test.YtakkhnihcfhcdaaRow
namespace Go.Proofs.Ytakkhnihcfhcdaa
open Go.ChangeShapes Go.WideShapes Go.ChangeAt Go.RowKit

set_option maxRecDepth 100000 in
theorem FnExactDepthBounds_lifted (os : Os) (started : os.Started) (H : Type) (enc : TypeId × Value → H) :
    ReturnsInHanded {} Try.checked os 3 .any (Rows.fnExactDepthBoundsSpec.pre6 enc Try.prog Try.f3 Rows.fnExactDepthBoundsRow.domain false) (Rows.fnExactDepthBoundsSpec.post enc Try.prog Try.f3 false true false false) := by
  refine returnsInHanded_of_change (C := Try.checked) own started (by kernel_rfl) Try.func3
    (ChangeSpec.witness6 (enc := enc) (C := Try.checked) false ⟨#[], #[.agg #[.int .i64 0, .int .i64 0, .int .i64 0, .int .i64 0]], []⟩ 8 (by kernel_rfl) (by kernel_rfl) (by kernel_rfl) (by kernel_rfl)) ?_
  intro W base args ds gs before hval0 hW hcnd _
  have hval : ∀ (j : Nat) t v, Try.f3.params[j]? = some t → args[j]? = some v → Value.okWide Try.prog W .any base t v := hval0
  have hW' := hW
  obtain ⟨p, q, hA0, hV, rfl, hfz, hnd⟩ := hW
  have hA : DataW.TrodAll enc Try.prog W 0 (fun _ => true) true Try.f3.params.toList args.toList ds p := hA0
  rw [Try.params3] at hA hval
  obtain ⟨v0, vs0, d0, ds0, p0, q0, hargs, rfl, rfl, h0, r0⟩ := trodAll_cons hA
  obtain ⟨rfl, rfl, rfl⟩ := trodAll_nil r0
  obtain rfl : args = #[v0] := by cases args; simp_all
  obtain ⟨a0, b0, c0, e0, rfl⟩ := open_snd (hval 0 _ v0 rfl rfl) h0
  refine (lawDepthBounds_any a0 b0 c0 e0 W).mono fun e W' ⟨he, bel⟩ => ?_
  subst he
  exact ⟨_, rfl, law_post hW' rfl (by kernel_rfl) rfl ⟨rfl, rfl, rfl⟩ bel⟩

theorem FnExactDepthBounds_over : Rows.fnExactDepthBoundsRow.holds Try.pinned (OpenSpec.ofChange Rows.fnExactDepthBoundsSpec) :=
  OpenClaim.holds_of_wide 3 Try.f3 rfl rfl rfl rfl rfl rfl rfl ⟨rfl, rfl, rfl, rfl, rfl⟩ rfl rfl rfl rfl rfl (by kernel_rfl) Try.func3 (by kernel_rfl)
    (of_decide_eq_true (by kernel_rfl)) (by unfold Func.isWrapper; first | (rw [if_pos (by decide +kernel)]; kernel_rfl) | (rw [if_neg (by decide +kernel)]; exact ⟨rfl, rfl⟩))
    (fun os started H enc _ => FnExactDepthBounds_lifted os started H enc)

/-- the statement -/
theorem FnExactDepthBounds_holds : Rows.FnExactDepthBoundsSaid := FnExactDepthBounds_over
#print axioms FnExactDepthBounds_holds
end Go.Proofs.Ytakkhnihcfhcdaa
