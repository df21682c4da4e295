/- A steep direction. -/
import Derived.Test.YtmgmhaikehjddaaCross
namespace Go.Proofs.Ytmgmhaikehjddaa
set_option linter.unusedSimpArgs false
set_option linter.unusedVariables false
open Go.RowKit

theorem steep_dir : dirB 9 40 41 = true := by unfold dirB inB; decide
theorem rayE_in {ds ss : List Int} {src co si hy k : Int} (h : rayE ds ss src co si hy k = 0) : profB ds ss = true ∧ dirB co si hy = true ∧ inB src 0 ((ds.length : Int) - 1) = true ∧ inB k 0 ((ds.length : Int) - 1) = true := by
  unfold rayE at h
  cases h1 : profB ds ss <;> cases h2 : dirB co si hy <;> cases h3 : inB src 0 ((ds.length : Int) - 1) <;> cases h4 : inB k 0 ((ds.length : Int) - 1) <;> simp [h1, h2, h3, h4] at h
  exact ⟨rfl, rfl, rfl, rfl⟩
theorem rayE_of {ds ss : List Int} {src co si hy k : Int} (h1 : profB ds ss = true) (h2 : dirB co si hy = true) (h3 : inB src 0 ((ds.length : Int) - 1) = true) (h4 : inB k 0 ((ds.length : Int) - 1) = true) : rayE ds ss src co si hy k = 0 := by
  unfold rayE; simp [h1, h2, h3, h4]
/-- a steep ray of the same source crosses every knot -/
theorem steep_ok {ds ss : List Int} {src co si hy k : Int} (h : rayE ds ss src co si hy k = 0) : rayE ds ss src 9 40 41 k = 0 ∧ canB ss src 9 41 k = true ∧ crossI ds ss src 9 40 41 k = true := by
  obtain ⟨h1, h2, h3, h4⟩ := rayE_in h
  have e := rayE_of h1 steep_dir h3 h4
  obtain ⟨p0, p1, p2, p3⟩ := prof_len h1
  have a := inB_bd h3
  have b := inB_bd h4
  have r := rayOk_zero (rayE_of (k := 0) h1 h2 h3 (by simp [inB]; omega))
  have v1 := r.sp src a.1 (by omega)
  have v2 := r.sp k b.1 (by omega)
  have g : canB ss src 9 41 k = true := by
    unfold canB
    exact decide_eq_true (by omega)
  exact ⟨e, g, by unfold crossI; rw [e, g]; rfl⟩
end Go.Proofs.Ytmgmhaikehjddaa
