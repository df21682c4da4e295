/- A step of a ray turned around: plain. -/
import Derived.Test.YtmgmhaikehjddaaStepRay
namespace Go.Proofs.Ytmgmhaikehjddaa
set_option linter.unusedSimpArgs false
set_option linter.unusedVariables false

theorem stB_of {ds ss : List Int} {src co si hy k lo hi k' : Int} (h : stB ds ss src co si hy k lo hi = true) (r : RayOk ds ss src co si hy) (k0 : 0 ≤ k') (k1 : k' < ss.length) (hc : canB ss src co hy k' = true) : stB ds ss src co si hy k' lo hi = true := by
  unfold stB crossI at h ⊢
  simp only [Bool.and_eq_true, decide_eq_true_eq] at h ⊢
  exact ⟨⟨⟨rayE_ok r k0 k1, hc⟩, h.1.2⟩, h.2⟩
/-- what a step without an error does, and the step back -/
theorem steps_ok {ds ss : List Int} {src co si hy k : Int} {dn : Bool} {lo hi : Int} (h0 : rayE ds ss src co si hy 0 = 0) (hb : stB ds ss src co si hy k lo hi = true) (h : srE ds ss src co si hy k dn lo hi = 0) :
    ((srV ds ss src co si hy k dn lo hi = 3 ∨ srV ds ss src co si hy k dn lo hi = 4) ∧ srK ds ss src co si hy k dn lo hi = k ∧ srD ds ss src co si hy k dn lo hi = !dn ∧ srL ds ss src co si hy k dn lo hi = lo ∧ srH ds ss src co si hy k dn lo hi = hi) ∨
    (srV ds ss src co si hy k dn lo hi = 2 ∧ srK ds ss src co si hy k dn lo hi = k ∧ srD ds ss src co si hy k dn lo hi = !dn) ∨
    (srV ds ss src co si hy k dn lo hi = 1 ∧ srD ds ss src co si hy k dn lo hi = dn ∧
      ∃ k', srK ds ss src co si hy k dn lo hi = k' ∧ srE ds ss src co si hy k' (!dn) lo hi = 0 ∧ srV ds ss src co si hy k' (!dn) lo hi = 1 ∧ srK ds ss src co si hy k' (!dn) lo hi = k ∧ srD ds ss src co si hy k' (!dn) lo hi = (!dn) ∧ srL ds ss src co si hy k' (!dn) lo hi = srL ds ss src co si hy k dn lo hi ∧ srH ds ss src co si hy k' (!dn) lo hi = srH ds ss src co si hy k dn lo hi) := by
  have r := rayOk_zero h0
  obtain ⟨k0, k1, hc, -⟩ := stB_facts (dn := dn) r hb
  obtain ⟨se, sv, sk, sd, sl, sh⟩ := sr_ok (dn := dn) h0 hb
  rw [sv, sk, sd, sl, sh]
  rw [se] at h
  have ll := r.l2; have lm := r.l3
  cases hi_ : inn ds k dn with
  | false =>
    obtain ⟨-, b, c, d, e, f, -, -⟩ := st_out (ss := ss) (src := src) (co := co) (hy := hy) (lo := lo) (hi := hi) hi_
    left
    exact ⟨by rw [b]; cases dn <;> simp, c, d, e, f⟩
  | true =>
    obtain ⟨-, b, c, d, e, f, -, -⟩ := st_good hi_ h
    rw [b, c, d, e, f]
    right
    cases hf : canB ss src co hy (farK (layK k dn) dn) with
    | false => left; exact ⟨rfl, rfl, rfl⟩
    | true =>
      right
      refine ⟨rfl, rfl, _, rfl, ?_⟩
      simp only [if_true]
      have g : 0 ≤ farK (layK k dn) dn ∧ farK (layK k dn) dn < ss.length ∧ inn ds (farK (layK k dn) dn) (!dn) = true ∧ layK (farK (layK k dn) dn) (!dn) = layK k dn ∧ farK (layK k dn) (!dn) = k ∧ nearK (layK k dn) dn = k := by
        cases dn
        · simp only [inn, layK, farK, nearK, Bool.false_eq_true, if_false, Bool.not_false, if_true, decide_eq_true_eq] at hi_ ⊢
          refine ⟨?_, ?_, ?_, ?_, ?_, ?_⟩ <;> first | omega | (simp; done) | (simp; omega)
        · simp only [inn, layK, farK, nearK, if_true, Bool.not_true, Bool.false_eq_true, if_false, decide_eq_true_eq] at hi_ ⊢
          refine ⟨?_, ?_, ?_, ?_, ?_, ?_⟩ <;> first | omega | (simp; done) | (simp; omega)
      obtain ⟨f0, f1, g3, g4, g5, g6⟩ := g
      have hb' := stB_of (k' := farK (layK k dn) dn) hb r f0 f1 hf
      obtain ⟨se', sv', sk', sd', sl', sh'⟩ := sr_ok (dn := !dn) h0 hb'
      rw [se', sv', sk', sd', sl', sh']
      have hfb : canB ss src co hy (farK (layK (farK (layK k dn) dn) (!dn)) (!dn)) = true := by rw [g4, g5]; exact hc
      obtain ⟨p1, p2, p3⟩ := pas_cross (ds := ds) hf
      obtain ⟨p1', p2', p3'⟩ := pas_cross (ds := ds) hfb
      have eL : sumL ds ss src co hy (farK (layK k dn) dn) (!dn) lo hi = sumL ds ss src co hy k dn lo hi := by unfold sumL; rw [p1, p1', g4]
      have eH : sumH ds ss src co hy (farK (layK k dn) dn) (!dn) lo hi = sumH ds ss src co hy k dn lo hi := by unfold sumH; rw [p2, p2', g4]
      have eE : stE ds ss src co hy (farK (layK k dn) dn) (!dn) lo hi = 0 := by
        unfold stE at h ⊢
        rw [if_pos hi_] at h
        rw [if_pos g3, eL, eH, p3', g4]
        rw [p3] at h
        exact h
      obtain ⟨-, b', c', d', e', f', -, -⟩ := st_good g3 eE
      rw [hfb] at b' c' d'
      simp only [if_true] at b' c' d'
      rw [g4, g5] at c'
      rw [eL, eH] at e' f'
      exact ⟨eE, b', c', d', e', f'⟩
theorem steps_in {ds ss : List Int} {src co si hy k : Int} {dn : Bool} {lo hi : Int} (h : srE ds ss src co si hy k dn lo hi = 0) : rayE ds ss src co si hy 0 = 0 ∧ stB ds ss src co si hy k lo hi = true := by
  unfold srE at h
  by_cases h0 : rayE ds ss src co si hy 0 = 0
  · rw [if_pos h0] at h
    cases hb : stB ds ss src co si hy k lo hi with
    | true => exact ⟨h0, rfl⟩
    | false => rw [hb] at h; simp at h
  · rw [if_neg h0] at h; exact absurd h h0
end Go.Proofs.Ytmgmhaikehjddaa
