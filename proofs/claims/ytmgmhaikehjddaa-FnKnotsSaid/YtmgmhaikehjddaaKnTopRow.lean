/- FnKnots: for every code, the law answers true: no knot is slower than the axis, and a gradient times the thickness of the layer is the difference of the speeds; no condition. -/
import Derived.Test.YtmgmhaikehjddaaBytes
import Derived.Test.YtmgmhaikehjddaaKnTop
namespace Go.Proofs.Ytmgmhaikehjddaa
open Go.ChangeShapes Go.WideShapes Go.ChangeAt Go.RowKit

set_option maxRecDepth 100000 in
theorem FnKnots_lifted (os : Os) (started : os.Started) (H : Type) (enc : TypeId × Value → H) :
    ReturnsInHanded {} Try.checked os 4 .any (Rows.fnKnotsSpec.pre6 enc Try.prog Try.f4 Rows.fnKnotsRow.domain false) (Rows.fnKnotsSpec.post enc Try.prog Try.f4 false true false false) := by
  refine returnsInHanded_of_change (C := Try.checked) own started (by kernel_rfl) Try.func4
    (ChangeSpec.witness6 (enc := enc) (C := Try.checked) false ⟨#[], #[.slice none 0 0], []⟩ 8 (by kernel_rfl) (by kernel_rfl) (by kernel_rfl) (by kernel_rfl)) ?_
  intro W base args ds gs before hval0 hW hcnd _
  have hval : ∀ (j : Nat) t v, Try.f4.params[j]? = some t → args[j]? = some v → Value.okWide Try.prog W .any base t v := hval0
  have hW' := hW
  obtain ⟨p, q, hA0, hV, rfl, hfz, hnd⟩ := hW
  have hA : DataW.TrodAll enc Try.prog W 0 (fun _ => true) true Try.f4.params.toList args.toList ds p := hA0
  rw [Try.params4] at hA hval
  obtain ⟨v0, vs0, d0, ds0, p0, q0, hargs, rfl, rfl, h0, r0⟩ := trodAll_cons hA
  obtain ⟨rfl, rfl, rfl⟩ := trodAll_nil r0
  obtain rfl : args = #[v0] := by cases args; simp_all
  obtain ⟨A1, c1, xs, rfl, hx⟩ := open_code (hval 0 _ v0 rfl rfl) h0
  refine (lawKnots_any A1 c1 xs W hx).mono fun e W' ⟨he, bel⟩ => ?_
  subst he
  exact ⟨_, rfl, law_post hW' rfl (by kernel_rfl) rfl ⟨rfl, rfl, rfl⟩ bel⟩

theorem FnKnots_over : Rows.fnKnotsRow.holds Try.pinned (OpenSpec.ofChange Rows.fnKnotsSpec) :=
  OpenClaim.holds_of_wide 4 Try.f4 rfl rfl rfl rfl rfl rfl rfl ⟨rfl, rfl, rfl, rfl, rfl⟩ rfl rfl rfl rfl rfl (by kernel_rfl) Try.func4 (by kernel_rfl)
    (of_decide_eq_true (by kernel_rfl)) (by unfold Func.isWrapper; first | (rw [if_pos (by decide +kernel)]; kernel_rfl) | (rw [if_neg (by decide +kernel)]; exact ⟨rfl, rfl⟩))
    (fun os started H enc _ => FnKnots_lifted os started H enc)

/-- the statement -/
theorem FnKnots_holds : Rows.FnKnotsSaid := FnKnots_over
#print axioms FnKnots_holds
end Go.Proofs.Ytmgmhaikehjddaa
