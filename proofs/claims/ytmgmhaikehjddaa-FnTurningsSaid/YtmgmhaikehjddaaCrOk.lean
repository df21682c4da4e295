/- The ranges of a crossing by two rays of one source: plain. -/
import Derived.Test.YtmgmhaikehjddaaCr2
import Derived.Test.YtmgmhaikehjddaaSteep
import Derived.Test.YtmgmhaikehjddaaDivm
import Derived.Test.YtmgmhaikehjddaaCmp
namespace Go.Proofs.Ytmgmhaikehjddaa
set_option linter.unusedSimpArgs false
set_option linter.unusedVariables false

theorem sq_nn (a : Int) : 0 ≤ a * a := by
  rcases Int.le_total 0 a with h | h
  · exact Int.mul_nonneg h h
  · exact Int.mul_nonneg_of_nonpos_of_nonpos h h
/-- squares compared -/
theorem le_of_sq {a b : Int} (hb : 0 ≤ b) (h : a * a ≤ b * b) : a ≤ b := by
  rcases Int.lt_or_le b a with g | g
  · have h1 : b * a < a * a := Int.mul_lt_mul_of_pos_right g (by omega)
    have h2 : b * b ≤ b * a := Int.mul_le_mul_of_nonneg_left (by omega) hb
    omega
  · exact g
theorem sin_sq {ds ss : List Int} {src co si hy k : Int} (r : RayOk ds ss src co si hy) (k0 : 0 ≤ k) (k1 : k < ss.length) (hc : canB ss src co hy k = true) :
    1 ≤ sinLo ss src co hy k ∧ sinLo ss src co hy k * sinLo ss src co hy k ≤ sqI ss src co hy k ∧ sqI ss src co hy k ≤ sinHi ss src co hy k * sinHi ss src co hy k ∧ sinLo ss src co hy k ≤ sinHi ss src co hy k ∧ sinHi ss src co hy k ≤ sinLo ss src co hy k + 1 ∧ sqI ss src co hy k < (sinLo ss src co hy k + 1) * (sinLo ss src co hy k + 1) := by
  obtain ⟨g0, g1⟩ := sqI_range r k0 k1 hc
  have s := rt_spec (n := sqI ss src co hy k) (by omega)
  have u := rtUp_spec (n := sqI ss src co hy k) (by omega)
  have b := sin_bd r k0 k1 hc
  exact ⟨b.1, s.2.1, u.2.2, u.1, u.2.1, s.2.2⟩
/-- the sines of a steeper ray are not smaller -/
theorem sin_two {ds ss : List Int} {src co si hy co' si' hy' k : Int} (r : RayOk ds ss src co si hy) (r' : RayOk ds ss src co' si' hy') (k0 : 0 ≤ k) (k1 : k < ss.length) (hc : canB ss src co hy k = true) (hc' : canB ss src co' hy' k = true)
    (hle : co' * hy ≤ co * hy') : co' * sinLo ss src co hy k ≤ co * sinHi ss src co' hy' k := by
  obtain ⟨a0, a1, a2, a3, a4, a5⟩ := sin_sq r k0 k1 hc
  obtain ⟨b0, b1, b2, b3, b4, b5⟩ := sin_sq r' k0 k1 hc'
  have c0 := r.c0; have c0' := r'.c0; have h0 := r.h0; have h0' := r'.h0
  apply le_of_sq (Int.mul_nonneg (by omega) (by omega))
  unfold sqI at *
  generalize sinLo ss src co hy k = L at *
  generalize sinHi ss src co' hy' k = U at *
  generalize spd ss src = s at *
  generalize spd ss k = c at *
  have m1 : (co' * hy) * (co' * hy) ≤ (co * hy') * (co * hy') := Int.mul_le_mul hle hle (Int.mul_nonneg (by omega) (by omega)) (Int.mul_nonneg (by omega) (by omega))
  have m2 : (co' * hy) * (co' * hy) * (s * s) ≤ (co * hy') * (co * hy') * (s * s) := Int.mul_le_mul_of_nonneg_right m1 (sq_nn s)
  have m3 : (co' * co') * (L * L) ≤ (co' * co') * ((hy * s - co * c) * (hy * s + co * c)) := Int.mul_le_mul_of_nonneg_left a1 (sq_nn co')
  have m4 : (co * co) * ((hy' * s - co' * c) * (hy' * s + co' * c)) ≤ (co * co) * (U * U) := Int.mul_le_mul_of_nonneg_left b2 (sq_nn co)
  grind
/-- a crossing of two rays of one source: the steeper one does not go surely farther -/
theorem cr_two {ds ss : List Int} {src co si hy co' si' hy' l : Int} (r : RayOk ds ss src co si hy) (r' : RayOk ds ss src co' si' hy') (l0 : 0 ≤ l) (l1 : l + 1 < ss.length) (ha : canB ss src co hy l = true) (hb : canB ss src co hy (l + 1) = true) (ha' : canB ss src co' hy' l = true) (hb' : canB ss src co' hy' (l + 1) = true)
    (hle : co' * hy ≤ co * hy') : crLo ds ss src co' hy' l ≤ crHi ds ss src co hy l := by
  have m1 := sin_two r r' l0 (by omega) ha ha' hle
  have m2 := sin_two r r' (k := l + 1) (by omega) l1 hb hb' hle
  have p1 := (sin_sq r l0 (by omega) ha).1
  have p2 := (sin_sq r (by omega) l1 hb).1
  obtain ⟨q1, -, -, q2, -, -⟩ := sin_sq r' l0 (by omega) ha'
  obtain ⟨q3, -, -, q4, -, -⟩ := sin_sq r' (by omega) l1 hb'
  have c0 := r.c0; have c0' := r'.c0
  have u := r.up l l0 l1
  have v1 := r.sp l l0 (by omega); have v2 := r.sp (l + 1) (by omega) l1
  have hT : 0 < spd ds (l + 1) - spd ds l := by omega
  unfold crLo crHi crN
  clear u
  generalize spd ds (l + 1) - spd ds l = T at *
  generalize spd ss l = a at *
  generalize spd ss (l + 1) = b at *
  generalize sinLo ss src co hy l = x1 at *
  generalize sinLo ss src co hy (l + 1) = x2 at *
  generalize sinHi ss src co' hy' l = y1 at *
  generalize sinHi ss src co' hy' (l + 1) = y2 at *
  have f1 := (fl_mul (n := T * co' * (a + b)) (d := y1 + y2) (by omega)).1
  have f2 := (ce_mul (n := T * co * (a + b)) (d := x1 + x2) (by omega)).1
  generalize T * co' * (a + b) / (y1 + y2) = q at *
  generalize -(-(T * co * (a + b)) / (x1 + x2)) = p at *
  have n0 : 0 ≤ T * co * (a + b) := Int.mul_nonneg (Int.mul_nonneg (by omega) (by omega)) (by omega)
  have p0 : 0 ≤ p := by
    rcases Int.lt_or_le p 0 with g | g
    · have := Int.mul_nonneg (show 0 ≤ -p - 1 by omega) (show 0 ≤ x1 + x2 by omega)
      have e : (-p - 1) * (x1 + x2) = -(p * (x1 + x2)) - (x1 + x2) := by grind
      omega
    · exact g
  rcases Int.lt_or_le p q with g | g
  · exfalso
    have k1 : (p + 1) * (co * (y1 + y2)) ≤ q * (co * (y1 + y2)) := Int.mul_le_mul_of_nonneg_right g (Int.mul_nonneg (by omega) (by omega))
    have k2 : co * (q * (y1 + y2)) ≤ co * (T * co' * (a + b)) := Int.mul_le_mul_of_nonneg_left f1 (by omega)
    have k3 : co' * (T * co * (a + b)) ≤ co' * (p * (x1 + x2)) := Int.mul_le_mul_of_nonneg_left f2 (by omega)
    have k4 : p * (co' * (x1 + x2)) ≤ p * (co * (y1 + y2)) := Int.mul_le_mul_of_nonneg_left (by rw [Int.mul_add, Int.mul_add]; omega) p0
    have k5 : 0 < co * (y1 + y2) := Int.mul_pos (by omega) (by omega)
    grind
  · exact g
theorem ceil_le_of {a b n : Int} (hb : 0 < b) (h : a ≤ n * b) : -(-a / b) ≤ n := by
  have h2 : -n * b ≤ -a := by rw [Int.neg_mul]; omega
  have := Int.le_ediv_of_mul_le hb h2
  omega
theorem crg_in {ds ss : List Int} {src co si hy l : Int} (h : crgC ds ss src co si hy l = 0) : arcE ds ss src co si hy l = 0 ∧ RayOk ds ss src co si hy ∧ 0 ≤ l ∧ l + 1 < ss.length ∧ canB ss src co hy l = true ∧ canB ss src co hy (l + 1) = true ∧ crgLo ds ss src co si hy l = crLo ds ss src co hy l ∧ crgHi ds ss src co si hy l = crHi ds ss src co hy l := by
  by_cases ho : vaE 1 ds ss src co si hy l true = 0
  · obtain ⟨h0, hv⟩ := va_ok ho
    obtain ⟨hcn, hcf⟩ := vd_one hv
    obtain ⟨r, l0, l1, -, -⟩ := arc_ok h0
    obtain ⟨e1, e2, e3⟩ := crg_ok ho
    rw [e3] at h
    obtain ⟨k1, k2, -, -, -, -⟩ := limz (by omega) h
    exact ⟨h0, r, l0, l1, hcn, hcf, by rw [e1, k1], by rw [e2, k2]⟩
  · have := (crg_bad ho).2.2; omega
theorem crg_of {ds ss : List Int} {src co si hy l : Int} (h : arcE ds ss src co si hy l = 0) (ha : canB ss src co hy l = true) (hb : canB ss src co hy (l + 1) = true) (b0 : 0 ≤ crLo ds ss src co hy l) (b1 : crLo ds ss src co hy l ≤ crHi ds ss src co hy l) (b2 : crHi ds ss src co hy l ≤ 1000000000000) :
    crgC ds ss src co si hy l = 0 ∧ crgLo ds ss src co si hy l = crLo ds ss src co hy l ∧ crgHi ds ss src co si hy l = crHi ds ss src co hy l := by
  have hv : vaE 1 ds ss src co si hy l true = 0 := by
    unfold vaE; rw [if_pos h]
    have e : vdI ss src co hy (nearK l true) (farK l true) = 1 := by
      unfold vdI nearK farK
      simp only [if_true]
      rw [ha, hb]; rfl
    rw [if_pos e]
  obtain ⟨e1, e2, e3⟩ := crg_ok hv
  have hB : isB (crLo ds ss src co hy l) (crHi ds ss src co hy l) = true := by
    simp only [isB, isV, inB, Bool.and_eq_true, decide_eq_true_eq]; omega
  obtain ⟨k1, k2, k3⟩ := lim_yes (c := 3) hB
  exact ⟨by rw [e3, k3], by rw [e1, k1], by rw [e2, k2]⟩
theorem crLo_nn {ds ss : List Int} {src co si hy l : Int} (r : RayOk ds ss src co si hy) (l0 : 0 ≤ l) (l1 : l + 1 < ss.length) (ha : canB ss src co hy l = true) (hb : canB ss src co hy (l + 1) = true) : 0 ≤ crLo ds ss src co hy l := by
  have p1 := sin_sq r l0 (by omega) ha
  have p2 := sin_sq r (by omega) l1 hb
  have c0 := r.c0
  have u := r.up l l0 l1
  have v1 := r.sp l l0 (by omega); have v2 := r.sp (l + 1) (by omega) l1
  unfold crLo crN
  exact Int.ediv_nonneg (Int.mul_nonneg (Int.mul_nonneg (by omega) (by omega)) (by omega)) (by omega)
/-- a steep ray crosses every layer, within the limit -/
theorem steep_cr {ds ss : List Int} {src co si hy l : Int} (h : arcE ds ss src co si hy l = 0) : RayOk ds ss src 9 40 41 ∧ canB ss src 9 41 l = true ∧ canB ss src 9 41 (l + 1) = true ∧ crgC ds ss src 9 40 41 l = 0 ∧ crgLo ds ss src 9 40 41 l = crLo ds ss src 9 41 l := by
  obtain ⟨r, l0, l1, h0, hl⟩ := arc_ok h
  have e0 := steep_ok (rayE_ok (k := 0) r (by omega) (by have := r.l0; have := r.l3; omega))
  have e1 := steep_ok (rayE_ok (k := l) r l0 (by omega))
  have e2 := steep_ok (rayE_ok (k := l + 1) r (by omega) l1)
  have r' := rayOk_zero e0.1
  have hA : arcE ds ss src 9 40 41 l = 0 := by unfold arcE; rw [if_pos e0.1, hl]; rfl
  have b0 := crLo_nn r' l0 l1 e1.2.1 e2.2.1
  have b1 := cr_two r' r' l0 l1 e1.2.1 e2.2.1 e1.2.1 e2.2.1 (by omega)
  have b2 : crHi ds ss src 9 41 l ≤ 1000000000000 := by
    have p1 := sin_sq r' l0 (by omega) e1.2.1
    have p2 := sin_sq r' (by omega) l1 e2.2.1
    have v1 := r.sp l l0 (by omega); have v2 := r.sp (l + 1) (by omega) l1; have vs := r.sp src r.s0 r.s1
    have d1 := r.dp l l0 (by omega); have d2 := r.dp (l + 1) (by omega) l1; have u := r.up l l0 l1
    have q1 : 100 ≤ sinLo ss src 9 41 l := by
      rcases Int.lt_or_le (sinLo ss src 9 41 l) 100 with g | g
      · exfalso
        have s := p1.2.2.2.2.2
        have m := Int.mul_le_mul (show sinLo ss src 9 41 l + 1 ≤ 100 by omega) (show sinLo ss src 9 41 l + 1 ≤ 100 by omega) (by omega) (by omega)
        have m2 := Int.mul_le_mul (show 10000 ≤ 41 * spd ss src - 9 * spd ss l by omega) (show 10000 ≤ 41 * spd ss src + 9 * spd ss l by omega) (by omega) (by omega)
        unfold sqI at s
        omega
      · exact g
    unfold crHi crN
    apply ceil_le_of (by omega)
    have m := Int.mul_le_mul (show (spd ds (l + 1) - spd ds l) * 9 ≤ 9000000 by omega) (show spd ss l + spd ss (l + 1) ≤ 3400000 by omega) (by omega) (by omega)
    omega
  obtain ⟨k1, k2, k3⟩ := crg_of hA e1.2.1 e2.2.1 b0 b1 b2
  exact ⟨r', e1.2.1, e2.2.1, k1, k2⟩
theorem crossings_ok {ds ss : List Int} {src co si hy l : Int} (h : crgC ds ss src co si hy l = 0) :
    0 ≤ crgLo ds ss src co si hy l ∧ crgLo ds ss src co si hy l ≤ crgHi ds ss src co si hy l ∧ cmpC co si hy 9 40 41 = 0 ∧
    (cmpV co si hy 9 40 41 = -1 ∨ ((cmpV co si hy 9 40 41 = 0 ∨ cmpV co si hy 9 40 41 = 1) ∧ crgC ds ss src 9 40 41 l = 0 ∧ crgLo ds ss src 9 40 41 l ≤ crgHi ds ss src co si hy l)) := by
  obtain ⟨h0, r, l0, l1, ha, hb, e1, e2⟩ := crg_in h
  obtain ⟨r', sa, sb, s1, s2⟩ := steep_cr h0
  obtain ⟨g1, g2⟩ := cmp_ok r.dir steep_dir
  rw [e1, e2, s1, s2, g1, g2]
  refine ⟨crLo_nn r l0 l1 ha hb, cr_two r r l0 l1 ha hb ha hb (by omega), rfl, ?_⟩
  rcases Int.lt_or_le (co * 41 - 9 * hy) 0 with g | g
  · exact .inl (sgn_neg g)
  · refine .inr ⟨?_, rfl, cr_two r r' l0 l1 ha hb sa sb (by omega)⟩
    rcases Int.lt_or_le 0 (co * 41 - 9 * hy) with g2 | g2
    · exact .inr (sgn_pos g2)
    · left; rw [show co * 41 - 9 * hy = 0 by omega]; exact sgn_zero
/-- a layer that is crossed is crossed from both sides -/
theorem lv_flip (ds ss : List Int) (src co si hy l : Int) (ab : Bool) : (lvI ds ss src co si hy l (!ab) == 1) = (lvI ds ss src co si hy l ab == 1) := by
  unfold lvI vdI
  by_cases h : arcE ds ss src co si hy l = 0
  · rw [if_pos h, if_pos h]
    cases ab <;> simp only [nearK, farK, Bool.not_true, Bool.not_false, if_true, Bool.false_eq_true, if_false] <;>
    cases canB ss src co hy l <;> cases canB ss src co hy (l + 1) <;> rfl
  · rw [if_neg h, if_neg h]
end Go.Proofs.Ytmgmhaikehjddaa
