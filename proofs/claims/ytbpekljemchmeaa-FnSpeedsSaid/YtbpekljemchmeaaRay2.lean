/- Rays with a knot; the reference's code and square. -/
import Derived.Test.YtbpekljemchmeaaRay
import Derived.Deep.Cut
namespace Go.Proofs.Ytbpekljemchmeaa
set_option linter.unusedSimpArgs false
set_option linter.unusedVariables false
open Go.RowKit

theorem rayE_zero {ds ss : List Int} {src co si hy k : Int} (r : RayOk ds ss src co si hy) : rayE ds ss src co si hy 0 = 0 := rayE_ok r (Int.le_refl 0) (by have := r.l0; have := r.l3; omega)
/-- where the ray is sound, a knot is wrong exactly if it is out of range -/
theorem rayE_two {ds ss : List Int} {src co si hy k : Int} (r : RayOk ds ss src co si hy) (h : rayE ds ss src co si hy k ≠ 0) : rayE ds ss src co si hy k = 2 ∧ inB k 0 ((ds.length : Int) - 1) = false := by
  unfold rayE at h ⊢
  rw [r.prof, r.dir] at h ⊢
  simp only [Bool.and_self, if_true] at h ⊢
  split at h
  · exact absurd rfl h
  · rename_i h2
    rw [if_neg h2]
    refine ⟨rfl, ?_⟩
    have : inB src 0 ((ds.length : Int) - 1) = true := by have := r.s0; have := r.s1; have := r.l2; simp [inB]; omega
    simpa [this] using h2
/-- where the ray is not sound, the knot does not matter -/
theorem rayE_bad {ds ss : List Int} {src co si hy k : Int} (h : rayE ds ss src co si hy 0 ≠ 0) : rayE ds ss src co si hy k = rayE ds ss src co si hy 0 := by
  unfold rayE at h ⊢
  split
  · rename_i h1
    rw [if_pos h1] at h
    split at h
    · exact absurd rfl h
    · rename_i h2
      simp only [Bool.and_eq_true] at h1
      have hl := prof_len h1.1
      have h0 : inB 0 0 ((ds.length : Int) - 1) = true := by simp [inB]; omega
      have h3 : inB src 0 ((ds.length : Int) - 1) = false := by simpa [h0] using h2
      simp [h3]
  · rfl
theorem rayOk_zero {ds ss : List Int} {src co si hy : Int} (h : rayE ds ss src co si hy 0 = 0) : RayOk ds ss src co si hy := (ray_ok h).1


theorem genS {P S : World → Prop} {w0 : World} (h0 : S w0) (h : ∀ w, S w → P w) : P w0 := h w0 h0
end Go.Proofs.Ytbpekljemchmeaa
