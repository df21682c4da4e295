/- FnExactJoinGauges: for all pairs of gauges, the law answers true: the program's JoinGauges returns what the reference's returns; no condition. -/
import Derived.Test.YtjddnelnmmafdaaRow
import Derived.Test.YtjddnelnmmafdaaJoinLaw
namespace Go.Proofs.Ytjddnelnmmafdaa
open Go.ChangeShapes Go.WideShapes Go.ChangeAt Go.RowKit

set_option maxRecDepth 100000 in
theorem FnExactJoinGauges_lifted (os : Os) (started : os.Started) (H : Type) (enc : TypeId × Value → H) :
    ReturnsInHanded {} Try.checked os 3 .any (Rows.fnExactJoinGaugesSpec.pre6 enc Try.prog Try.f3 Rows.fnExactJoinGaugesRow.domain false) (Rows.fnExactJoinGaugesSpec.post enc Try.prog Try.f3 false true false false) := by
  refine returnsInHanded_of_change (C := Try.checked) own started (by kernel_rfl) Try.func3
    (ChangeSpec.witness6 (enc := enc) (C := Try.checked) false ⟨#[], #[.agg #[.slice none 0 0, .slice none 0 0], .agg #[.slice none 0 0, .slice none 0 0]], []⟩ 8 (by kernel_rfl) (by kernel_rfl) (by kernel_rfl) (by kernel_rfl)) ?_
  intro W base args ds gs before hval0 hW hcnd _
  have hval : ∀ (j : Nat) t v, Try.f3.params[j]? = some t → args[j]? = some v → Value.okWide Try.prog W .any base t v := hval0
  have hW' := hW
  obtain ⟨p, q, hA0, hV, rfl, hfz, hnd⟩ := hW
  have hA : DataW.TrodAll enc Try.prog W 0 (fun _ => true) true Try.f3.params.toList args.toList ds p := hA0
  rw [Try.params3] at hA hval
  obtain ⟨v0, vs0, d0, ds0, p0, q0, hargs, rfl, rfl, h0, r0⟩ := trodAll_cons hA
  obtain ⟨v1, vs1, d1, ds1, p1, q1, rfl, rfl, rfl, h1, r1⟩ := trodAll_cons r0
  obtain ⟨rfl, rfl, rfl⟩ := trodAll_nil r1
  obtain rfl : args = #[v0, v1] := by cases args; simp_all
  obtain ⟨A1, c1, A2, c2, ds, ss, rfl, g1, g2⟩ := open_gauge (hval 0 _ v0 rfl rfl) h0
  obtain ⟨A3, c3, A4, c4, us, ms, rfl, g3, g4⟩ := open_gauge (hval 1 _ v1 rfl rfl) h1
  refine (lawJoinGauges_any A1 A2 A3 A4 c1 c2 c3 c4 ds ss us ms W ⟨g1, g2⟩ ⟨g3, g4⟩).mono fun e W' ⟨he, bel⟩ => ?_
  subst he
  exact ⟨_, rfl, law_post hW' rfl (by kernel_rfl) rfl ⟨rfl, rfl, rfl⟩ bel⟩

theorem FnExactJoinGauges_over : Rows.fnExactJoinGaugesRow.holds Try.pinned (OpenSpec.ofChange Rows.fnExactJoinGaugesSpec) :=
  OpenClaim.holds_of_wide 3 Try.f3 rfl rfl rfl rfl rfl rfl rfl ⟨rfl, rfl, rfl, rfl, rfl⟩ rfl rfl rfl rfl rfl (by kernel_rfl) Try.func3 (by kernel_rfl)
    (of_decide_eq_true (by kernel_rfl)) (by unfold Func.isWrapper; first | (rw [if_pos (by decide +kernel)]; kernel_rfl) | (rw [if_neg (by decide +kernel)]; exact ⟨rfl, rfl⟩))
    (fun os started H enc _ => FnExactJoinGauges_lifted os started H enc)

/-- the statement -/
theorem FnExactJoinGauges_holds : Rows.FnExactJoinGaugesSaid := FnExactJoinGauges_over
#print axioms FnExactJoinGauges_holds
end Go.Proofs.Ytjddnelnmmafdaa
