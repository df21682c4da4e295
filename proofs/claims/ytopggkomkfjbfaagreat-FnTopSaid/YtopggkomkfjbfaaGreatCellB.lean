/- Texts in one: Cr2, Steep, Divm, Cmp, CrOk, Tn2, Rad2, TurnOk, Bnd, Bnd2, Bnd3, Cell0. -/
import Derived.Test.YtopggkomkfjbfaaGreatCr
import Derived.Test.YtopggkomkfjbfaaGreatCross
import Derived.Test.YtopggkomkfjbfaaGreatSpd
import Derived.Test.YtopggkomkfjbfaaGreatArc2
import Derived.Test.YtopggkomkfjbfaaGreatRay
import Derived.Test.YtopggkomkfjbfaaGreatTn
import Derived.Test.YtopggkomkfjbfaaGreatRad
import Derived.Test.YtopggkomkfjbfaaGreatPass
import Derived.Test.YtopggkomkfjbfaaGreatTrace0
import Derived.Test.YtopggkomkfjbfaaGreatTrace1
import Derived.Test.YtopggkomkfjbfaaGreatTrace3
namespace Go.Proofs.YtopggkomkfjbfaaGreat
section
set_option linter.unusedSimpArgs false
set_option linter.unusedVariables false
open Go.RowKit

@[irreducible] def crgLo (ds ss : List Int) (src co si hy l : Int) : Int := if vaE 1 ds ss src co si hy l true = 0 then limLo (crLo ds ss src co hy l) (crHi ds ss src co hy l) else 0
@[irreducible] def crgHi (ds ss : List Int) (src co si hy l : Int) : Int := if vaE 1 ds ss src co si hy l true = 0 then limHi (crLo ds ss src co hy l) (crHi ds ss src co hy l) else 0
@[irreducible] def crgC (ds ss : List Int) (src co si hy l : Int) : Int := if vaE 1 ds ss src co si hy l true = 0 then limC (crLo ds ss src co hy l) (crHi ds ss src co hy l) 3 else vaE 1 ds ss src co si hy l true
theorem crg_ok {ds ss : List Int} {src co si hy l : Int} (h : vaE 1 ds ss src co si hy l true = 0) : crgLo ds ss src co si hy l = limLo (crLo ds ss src co hy l) (crHi ds ss src co hy l) ∧
    crgHi ds ss src co si hy l = limHi (crLo ds ss src co hy l) (crHi ds ss src co hy l) ∧ crgC ds ss src co si hy l = limC (crLo ds ss src co hy l) (crHi ds ss src co hy l) 3 := by
  unfold crgLo crgHi crgC; rw [if_pos h, if_pos h, if_pos h]; exact ⟨rfl, rfl, rfl⟩
theorem crg_bad {ds ss : List Int} {src co si hy l : Int} (h : vaE 1 ds ss src co si hy l true ≠ 0) : crgLo ds ss src co si hy l = 0 ∧ crgHi ds ss src co si hy l = 0 ∧ crgC ds ss src co si hy l = vaE 1 ds ss src co si hy l true := by
  unfold crgLo crgHi crgC; rw [if_neg h, if_neg h, if_neg h]; exact ⟨rfl, rfl, rfl⟩

end

section
set_option linter.unusedSimpArgs false
set_option linter.unusedVariables false
open Go.RowKit

theorem steep_dir : dirB 9 40 41 = true := by unfold dirB inB; decide
theorem rayE_in {ds ss : List Int} {src co si hy k : Int} (h : rayE ds ss src co si hy k = 0) : profB ds ss = true ∧ dirB co si hy = true ∧ inB src 0 ((ds.length : Int) - 1) = true ∧ inB k 0 ((ds.length : Int) - 1) = true := by
  unfold rayE at h
  cases h1 : profB ds ss <;> cases h2 : dirB co si hy <;> cases h3 : inB src 0 ((ds.length : Int) - 1) <;> cases h4 : inB k 0 ((ds.length : Int) - 1) <;> simp [h1, h2, h3, h4] at h
  exact ⟨rfl, rfl, rfl, rfl⟩
theorem rayE_of {ds ss : List Int} {src co si hy k : Int} (h1 : profB ds ss = true) (h2 : dirB co si hy = true) (h3 : inB src 0 ((ds.length : Int) - 1) = true) (h4 : inB k 0 ((ds.length : Int) - 1) = true) : rayE ds ss src co si hy k = 0 := by
  unfold rayE; simp [h1, h2, h3, h4]
/-- a steep ray of the same source crosses every knot -/
theorem steep_ok {ds ss : List Int} {src co si hy k : Int} (h : rayE ds ss src co si hy k = 0) : rayE ds ss src 9 40 41 k = 0 ∧ canB ss src 9 41 k = true ∧ crossI ds ss src 9 40 41 k = true := by
  obtain ⟨h1, h2, h3, h4⟩ := rayE_in h
  have e := rayE_of h1 steep_dir h3 h4
  obtain ⟨p0, p1, p2, p3⟩ := prof_len h1
  have a := inB_bd h3
  have b := inB_bd h4
  have r := rayOk_zero (rayE_of (k := 0) h1 h2 h3 (by simp [inB]; omega))
  have v1 := r.sp src a.1 (by omega)
  have v2 := r.sp k b.1 (by omega)
  have g : canB ss src 9 41 k = true := by
    unfold canB
    exact decide_eq_true (by omega)
  exact ⟨e, g, by unfold crossI; rw [e, g]; rfl⟩
end

section
set_option linter.unusedSimpArgs false
set_option linter.unusedVariables false

theorem cg_gap {n d : Int} (hd : 0 < d) : n / d ≤ -(-n / d) ∧ -(-n / d) ≤ n / d + 1 := by
  have h1 := Int.mul_ediv_add_emod n d
  have h2 := Int.emod_nonneg n (show d ≠ 0 by omega)
  have h3 := Int.emod_lt_of_pos n hd
  obtain ⟨q, hq⟩ : ∃ q, n / d = q := ⟨_, rfl⟩
  obtain ⟨r, hr⟩ : ∃ r, n % d = r := ⟨_, rfl⟩
  rw [hq] at h1 ⊢
  rw [hr] at h1 h2 h3
  constructor
  · have : -n / d ≤ -q := by
      have h4 : -n ≤ d * (-q) := by rw [Int.mul_neg]; omega
      have := Int.ediv_le_ediv hd h4
      rwa [Int.mul_ediv_cancel_left _ (by omega)] at this
    omega
  · have : -q - 1 ≤ -n / d := by
      have h4 : d * (-q - 1) ≤ -n := by rw [Int.mul_sub, Int.mul_neg]; omega
      have := Int.ediv_le_ediv hd h4
      rwa [Int.mul_ediv_cancel_left _ (by omega)] at this
    omega
theorem fl_mul {n d : Int} (hd : 0 < d) : n / d * d ≤ n ∧ n < n / d * d + d := by
  have h1 := Int.mul_ediv_add_emod n d
  have h2 := Int.emod_nonneg n (show d ≠ 0 by omega)
  have h3 := Int.emod_lt_of_pos n hd
  rw [Int.mul_comm]
  omega
theorem ce_mul {n d : Int} (hd : 0 < d) : n ≤ -(-n / d) * d ∧ -(-n / d) * d < n + d := by
  have h := fl_mul (n := -n) hd
  rw [Int.neg_mul]
  omega
theorem limz {a b c : Int} (hc : c ≠ 0) (h : limC a b c = 0) : limLo a b = a ∧ limHi a b = b ∧ -1000000000000 ≤ a ∧ a ≤ 1000000000000 ∧ -1000000000000 ≤ b ∧ b ≤ 1000000000000 := by
  unfold limC at h
  unfold limLo limHi
  cases hb : isB a b with
  | true =>
    simp only [isB, Bool.and_eq_true, isV] at hb
    have h1 := inB_bd hb.1
    have h2 := inB_bd hb.2
    exact ⟨rfl, rfl, h1.1, h1.2, h2.1, h2.2⟩
  | false => rw [hb] at h; simp at h; exact absurd h hc
theorem ediv_le_of {a b n : Int} (hb : 0 < b) (h : a ≤ n * b) : a / b ≤ n := by
  have := Int.ediv_le_ediv hb h
  rwa [Int.mul_ediv_cancel _ (by omega)] at this
theorem le_ceil_of {a b n : Int} (hb : 0 < b) (h : n * b ≤ a) : n ≤ -(-a / b) := by
  have h2 : -a ≤ -n * b := by rw [Int.neg_mul]; omega
  have := ediv_le_of hb h2
  omega
end

section
set_option linter.unusedSimpArgs false
set_option linter.unusedVariables false
open Go.RowKit

/-- -1, 0 or 1 -/
@[irreducible] def sgnI (x : Int) : Int := if 0 < x then 1 else if x < 0 then -1 else 0
theorem sgn_pos {x : Int} (h : 0 < x) : sgnI x = 1 := by unfold sgnI; simp [h]
theorem sgn_neg {x : Int} (h : x < 0) : sgnI x = -1 := by unfold sgnI; rw [if_neg (by omega), if_pos h]
theorem sgn_zero : sgnI 0 = 0 := by unfold sgnI; simp
@[irreducible] def cmpC (a b c d e f : Int) : Int := if dirB a b c && dirB d e f then 0 else 1
@[irreducible] def cmpV (a b c d e f : Int) : Int := if dirB a b c && dirB d e f then sgnI (a * f - d * c) else 0
theorem cmp_ok {a b c d e f : Int} (h1 : dirB a b c = true) (h2 : dirB d e f = true) : cmpC a b c d e f = 0 ∧ cmpV a b c d e f = sgnI (a * f - d * c) := by unfold cmpC cmpV; simp [h1, h2]
theorem cmp_bad1 {a b c d e f : Int} (h1 : dirB a b c = false) : cmpC a b c d e f = 1 ∧ cmpV a b c d e f = 0 := by unfold cmpC cmpV; simp [h1]
theorem cmp_bad2 {a b c d e f : Int} (h2 : dirB d e f = false) : cmpC a b c d e f = 1 ∧ cmpV a b c d e f = 0 := by unfold cmpC cmpV; simp [h2]

set_option maxHeartbeats 400000 in
theorem sign_any (x : Int) (w : World) :
    Calls Tryz.prog 55 #[.int .i64 x] w fun e w' => e = .returned (.int .i64 (sgnI x)) ∧ w = w' := by
  rcases Int.lt_trichotomy x 0 with h | h | h
  · have e := sgn_neg h
    have h1 : x ≤ -1 := by omega
    go_enter Tryz.func55, Tryz.ntmps55
    go_wp2
    all_goals (go_ret; exact ⟨ret_int (by rw [e]), rfl⟩)
  · subst h
    have e := sgn_zero
    go_enter Tryz.func55, Tryz.ntmps55
    go_wp2
    all_goals (go_ret; exact ⟨ret_int (by rw [e]), rfl⟩)
  · have e := sgn_pos h
    have h1 : 1 ≤ x := by omega
    go_enter Tryz.func55, Tryz.ntmps55
    go_wp2
    all_goals (go_ret; exact ⟨ret_int (by rw [e]), rfl⟩)
set_option maxHeartbeats 1000000 in
theorem cmpDirs_any (a b c d e f : Int) (w : World) (h1 : dirB a b c = true) (h2 : dirB d e f = true) :
    Calls Tryz.prog 30 #[dirV a b c, dirV d e f] w fun e_ w' => e_ = .returned (.int .i64 (sgnI (a * f - d * c))) ∧ Below w.heap.size w w' := by
  obtain ⟨c0, c1, a0, a1⟩ := dir_ok h1
  obtain ⟨f0, f1, d0, d1⟩ := dir_ok h2
  have m1 := Int.mul_le_mul (show a ≤ 1000 by omega) f1 (by omega) (by omega)
  have m2 := Int.mul_le_mul (show d ≤ 1000 by omega) c1 (by omega) (by omega)
  have m3 := Int.mul_nonneg (show 0 ≤ a by omega) (show 0 ≤ f by omega)
  have m4 := Int.mul_nonneg (show 0 ≤ d by omega) (show 0 ≤ c by omega)
  go_enter Tryz.func30, Tryz.ntmps30
  go_wp2_with (go_at_call 55; refine (sign_any _ _).mono ?_; rintro e w' ⟨rfl, rfl⟩)
  go_ret
  exact ⟨rfl, by go_grown⟩
end

section
set_option linter.unusedSimpArgs false
set_option linter.unusedVariables false

theorem sq_nn (a : Int) : 0 ≤ a * a := by
  rcases Int.le_total 0 a with h | h
  · exact Int.mul_nonneg h h
  · exact Int.mul_nonneg_of_nonpos_of_nonpos h h
/-- squares compared -/
theorem le_of_sq {a b : Int} (hb : 0 ≤ b) (h : a * a ≤ b * b) : a ≤ b := by
  rcases Int.lt_or_le b a with g | g
  · have h1 : b * a < a * a := Int.mul_lt_mul_of_pos_right g (by omega)
    have h2 : b * b ≤ b * a := Int.mul_le_mul_of_nonneg_left (by omega) hb
    omega
  · exact g
theorem sin_sq {ds ss : List Int} {src co si hy k : Int} (r : RayOk ds ss src co si hy) (k0 : 0 ≤ k) (k1 : k < ss.length) (hc : canB ss src co hy k = true) :
    1 ≤ sinLo ss src co hy k ∧ sinLo ss src co hy k * sinLo ss src co hy k ≤ sqI ss src co hy k ∧ sqI ss src co hy k ≤ sinHi ss src co hy k * sinHi ss src co hy k ∧ sinLo ss src co hy k ≤ sinHi ss src co hy k ∧ sinHi ss src co hy k ≤ sinLo ss src co hy k + 1 ∧ sqI ss src co hy k < (sinLo ss src co hy k + 1) * (sinLo ss src co hy k + 1) := by
  obtain ⟨g0, g1⟩ := sqI_range r k0 k1 hc
  have s := rt_spec (n := sqI ss src co hy k) (by omega)
  have u := rtUp_spec (n := sqI ss src co hy k) (by omega)
  have b := sin_bd r k0 k1 hc
  exact ⟨b.1, s.2.1, u.2.2, u.1, u.2.1, s.2.2⟩
/-- the sines of a steeper ray are not smaller -/
theorem sin_two {ds ss : List Int} {src co si hy co' si' hy' k : Int} (r : RayOk ds ss src co si hy) (r' : RayOk ds ss src co' si' hy') (k0 : 0 ≤ k) (k1 : k < ss.length) (hc : canB ss src co hy k = true) (hc' : canB ss src co' hy' k = true)
    (hle : co' * hy ≤ co * hy') : co' * sinLo ss src co hy k ≤ co * sinHi ss src co' hy' k := by
  obtain ⟨a0, a1, a2, a3, a4, a5⟩ := sin_sq r k0 k1 hc
  obtain ⟨b0, b1, b2, b3, b4, b5⟩ := sin_sq r' k0 k1 hc'
  have c0 := r.c0; have c0' := r'.c0; have h0 := r.h0; have h0' := r'.h0
  apply le_of_sq (Int.mul_nonneg (by omega) (by omega))
  unfold sqI at *
  generalize sinLo ss src co hy k = L at *
  generalize sinHi ss src co' hy' k = U at *
  generalize spd ss src = s at *
  generalize spd ss k = c at *
  have m1 : (co' * hy) * (co' * hy) ≤ (co * hy') * (co * hy') := Int.mul_le_mul hle hle (Int.mul_nonneg (by omega) (by omega)) (Int.mul_nonneg (by omega) (by omega))
  have m2 : (co' * hy) * (co' * hy) * (s * s) ≤ (co * hy') * (co * hy') * (s * s) := Int.mul_le_mul_of_nonneg_right m1 (sq_nn s)
  have m3 : (co' * co') * (L * L) ≤ (co' * co') * ((hy * s - co * c) * (hy * s + co * c)) := Int.mul_le_mul_of_nonneg_left a1 (sq_nn co')
  have m4 : (co * co) * ((hy' * s - co' * c) * (hy' * s + co' * c)) ≤ (co * co) * (U * U) := Int.mul_le_mul_of_nonneg_left b2 (sq_nn co)
  grind
/-- a crossing of two rays of one source: the steeper one does not go surely farther -/
theorem cr_two {ds ss : List Int} {src co si hy co' si' hy' l : Int} (r : RayOk ds ss src co si hy) (r' : RayOk ds ss src co' si' hy') (l0 : 0 ≤ l) (l1 : l + 1 < ss.length) (ha : canB ss src co hy l = true) (hb : canB ss src co hy (l + 1) = true) (ha' : canB ss src co' hy' l = true) (hb' : canB ss src co' hy' (l + 1) = true)
    (hle : co' * hy ≤ co * hy') : crLo ds ss src co' hy' l ≤ crHi ds ss src co hy l := by
  have m1 := sin_two r r' l0 (by omega) ha ha' hle
  have m2 := sin_two r r' (k := l + 1) (by omega) l1 hb hb' hle
  have p1 := (sin_sq r l0 (by omega) ha).1
  have p2 := (sin_sq r (by omega) l1 hb).1
  obtain ⟨q1, -, -, q2, -, -⟩ := sin_sq r' l0 (by omega) ha'
  obtain ⟨q3, -, -, q4, -, -⟩ := sin_sq r' (by omega) l1 hb'
  have c0 := r.c0; have c0' := r'.c0
  have u := r.up l l0 l1
  have v1 := r.sp l l0 (by omega); have v2 := r.sp (l + 1) (by omega) l1
  have hT : 0 < spd ds (l + 1) - spd ds l := by omega
  unfold crLo crHi crN
  clear u
  generalize spd ds (l + 1) - spd ds l = T at *
  generalize spd ss l = a at *
  generalize spd ss (l + 1) = b at *
  generalize sinLo ss src co hy l = x1 at *
  generalize sinLo ss src co hy (l + 1) = x2 at *
  generalize sinHi ss src co' hy' l = y1 at *
  generalize sinHi ss src co' hy' (l + 1) = y2 at *
  have f1 := (fl_mul (n := T * co' * (a + b)) (d := y1 + y2) (by omega)).1
  have f2 := (ce_mul (n := T * co * (a + b)) (d := x1 + x2) (by omega)).1
  generalize T * co' * (a + b) / (y1 + y2) = q at *
  generalize -(-(T * co * (a + b)) / (x1 + x2)) = p at *
  have n0 : 0 ≤ T * co * (a + b) := Int.mul_nonneg (Int.mul_nonneg (by omega) (by omega)) (by omega)
  have p0 : 0 ≤ p := by
    rcases Int.lt_or_le p 0 with g | g
    · have := Int.mul_nonneg (show 0 ≤ -p - 1 by omega) (show 0 ≤ x1 + x2 by omega)
      have e : (-p - 1) * (x1 + x2) = -(p * (x1 + x2)) - (x1 + x2) := by grind
      omega
    · exact g
  rcases Int.lt_or_le p q with g | g
  · exfalso
    have k1 : (p + 1) * (co * (y1 + y2)) ≤ q * (co * (y1 + y2)) := Int.mul_le_mul_of_nonneg_right g (Int.mul_nonneg (by omega) (by omega))
    have k2 : co * (q * (y1 + y2)) ≤ co * (T * co' * (a + b)) := Int.mul_le_mul_of_nonneg_left f1 (by omega)
    have k3 : co' * (T * co * (a + b)) ≤ co' * (p * (x1 + x2)) := Int.mul_le_mul_of_nonneg_left f2 (by omega)
    have k4 : p * (co' * (x1 + x2)) ≤ p * (co * (y1 + y2)) := Int.mul_le_mul_of_nonneg_left (by rw [Int.mul_add, Int.mul_add]; omega) p0
    have k5 : 0 < co * (y1 + y2) := Int.mul_pos (by omega) (by omega)
    grind
  · exact g
theorem ceil_le_of {a b n : Int} (hb : 0 < b) (h : a ≤ n * b) : -(-a / b) ≤ n := by
  have h2 : -n * b ≤ -a := by rw [Int.neg_mul]; omega
  have := Int.le_ediv_of_mul_le hb h2
  omega
theorem crg_in {ds ss : List Int} {src co si hy l : Int} (h : crgC ds ss src co si hy l = 0) : arcE ds ss src co si hy l = 0 ∧ RayOk ds ss src co si hy ∧ 0 ≤ l ∧ l + 1 < ss.length ∧ canB ss src co hy l = true ∧ canB ss src co hy (l + 1) = true ∧ crgLo ds ss src co si hy l = crLo ds ss src co hy l ∧ crgHi ds ss src co si hy l = crHi ds ss src co hy l := by
  by_cases ho : vaE 1 ds ss src co si hy l true = 0
  · obtain ⟨h0, hv⟩ := va_ok ho
    obtain ⟨hcn, hcf⟩ := vd_one hv
    obtain ⟨r, l0, l1, -, -⟩ := arc_ok h0
    obtain ⟨e1, e2, e3⟩ := crg_ok ho
    rw [e3] at h
    obtain ⟨k1, k2, -, -, -, -⟩ := limz (by omega) h
    exact ⟨h0, r, l0, l1, hcn, hcf, by rw [e1, k1], by rw [e2, k2]⟩
  · have := (crg_bad ho).2.2; omega
theorem crg_of {ds ss : List Int} {src co si hy l : Int} (h : arcE ds ss src co si hy l = 0) (ha : canB ss src co hy l = true) (hb : canB ss src co hy (l + 1) = true) (b0 : 0 ≤ crLo ds ss src co hy l) (b1 : crLo ds ss src co hy l ≤ crHi ds ss src co hy l) (b2 : crHi ds ss src co hy l ≤ 1000000000000) :
    crgC ds ss src co si hy l = 0 ∧ crgLo ds ss src co si hy l = crLo ds ss src co hy l ∧ crgHi ds ss src co si hy l = crHi ds ss src co hy l := by
  have hv : vaE 1 ds ss src co si hy l true = 0 := by
    unfold vaE; rw [if_pos h]
    have e : vdI ss src co hy (nearK l true) (farK l true) = 1 := by
      unfold vdI nearK farK
      simp only [if_true]
      rw [ha, hb]; rfl
    rw [if_pos e]
  obtain ⟨e1, e2, e3⟩ := crg_ok hv
  have hB : isB (crLo ds ss src co hy l) (crHi ds ss src co hy l) = true := by
    simp only [isB, isV, inB, Bool.and_eq_true, decide_eq_true_eq]; omega
  obtain ⟨k1, k2, k3⟩ := lim_yes (c := 3) hB
  exact ⟨by rw [e3, k3], by rw [e1, k1], by rw [e2, k2]⟩
theorem crLo_nn {ds ss : List Int} {src co si hy l : Int} (r : RayOk ds ss src co si hy) (l0 : 0 ≤ l) (l1 : l + 1 < ss.length) (ha : canB ss src co hy l = true) (hb : canB ss src co hy (l + 1) = true) : 0 ≤ crLo ds ss src co hy l := by
  have p1 := sin_sq r l0 (by omega) ha
  have p2 := sin_sq r (by omega) l1 hb
  have c0 := r.c0
  have u := r.up l l0 l1
  have v1 := r.sp l l0 (by omega); have v2 := r.sp (l + 1) (by omega) l1
  unfold crLo crN
  exact Int.ediv_nonneg (Int.mul_nonneg (Int.mul_nonneg (by omega) (by omega)) (by omega)) (by omega)
/-- a steep ray crosses every layer, within the limit -/
theorem steep_cr {ds ss : List Int} {src co si hy l : Int} (h : arcE ds ss src co si hy l = 0) : RayOk ds ss src 9 40 41 ∧ canB ss src 9 41 l = true ∧ canB ss src 9 41 (l + 1) = true ∧ crgC ds ss src 9 40 41 l = 0 ∧ crgLo ds ss src 9 40 41 l = crLo ds ss src 9 41 l := by
  obtain ⟨r, l0, l1, h0, hl⟩ := arc_ok h
  have e0 := steep_ok (rayE_ok (k := 0) r (by omega) (by have := r.l0; have := r.l3; omega))
  have e1 := steep_ok (rayE_ok (k := l) r l0 (by omega))
  have e2 := steep_ok (rayE_ok (k := l + 1) r (by omega) l1)
  have r' := rayOk_zero e0.1
  have hA : arcE ds ss src 9 40 41 l = 0 := by unfold arcE; rw [if_pos e0.1, hl]; rfl
  have b0 := crLo_nn r' l0 l1 e1.2.1 e2.2.1
  have b1 := cr_two r' r' l0 l1 e1.2.1 e2.2.1 e1.2.1 e2.2.1 (by omega)
  have b2 : crHi ds ss src 9 41 l ≤ 1000000000000 := by
    have p1 := sin_sq r' l0 (by omega) e1.2.1
    have p2 := sin_sq r' (by omega) l1 e2.2.1
    have v1 := r.sp l l0 (by omega); have v2 := r.sp (l + 1) (by omega) l1; have vs := r.sp src r.s0 r.s1
    have d1 := r.dp l l0 (by omega); have d2 := r.dp (l + 1) (by omega) l1; have u := r.up l l0 l1
    have q1 : 100 ≤ sinLo ss src 9 41 l := by
      rcases Int.lt_or_le (sinLo ss src 9 41 l) 100 with g | g
      · exfalso
        have s := p1.2.2.2.2.2
        have m := Int.mul_le_mul (show sinLo ss src 9 41 l + 1 ≤ 100 by omega) (show sinLo ss src 9 41 l + 1 ≤ 100 by omega) (by omega) (by omega)
        have m2 := Int.mul_le_mul (show 10000 ≤ 41 * spd ss src - 9 * spd ss l by omega) (show 10000 ≤ 41 * spd ss src + 9 * spd ss l by omega) (by omega) (by omega)
        unfold sqI at s
        omega
      · exact g
    unfold crHi crN
    apply ceil_le_of (by omega)
    have m := Int.mul_le_mul (show (spd ds (l + 1) - spd ds l) * 9 ≤ 9000000 by omega) (show spd ss l + spd ss (l + 1) ≤ 3400000 by omega) (by omega) (by omega)
    omega
  obtain ⟨k1, k2, k3⟩ := crg_of hA e1.2.1 e2.2.1 b0 b1 b2
  exact ⟨r', e1.2.1, e2.2.1, k1, k2⟩
theorem crossings_ok {ds ss : List Int} {src co si hy l : Int} (h : crgC ds ss src co si hy l = 0) :
    0 ≤ crgLo ds ss src co si hy l ∧ crgLo ds ss src co si hy l ≤ crgHi ds ss src co si hy l ∧ cmpC co si hy 9 40 41 = 0 ∧
    (cmpV co si hy 9 40 41 = -1 ∨ ((cmpV co si hy 9 40 41 = 0 ∨ cmpV co si hy 9 40 41 = 1) ∧ crgC ds ss src 9 40 41 l = 0 ∧ crgLo ds ss src 9 40 41 l ≤ crgHi ds ss src co si hy l)) := by
  obtain ⟨h0, r, l0, l1, ha, hb, e1, e2⟩ := crg_in h
  obtain ⟨r', sa, sb, s1, s2⟩ := steep_cr h0
  obtain ⟨g1, g2⟩ := cmp_ok r.dir steep_dir
  rw [e1, e2, s1, s2, g1, g2]
  refine ⟨crLo_nn r l0 l1 ha hb, cr_two r r l0 l1 ha hb ha hb (by omega), rfl, ?_⟩
  rcases Int.lt_or_le (co * 41 - 9 * hy) 0 with g | g
  · exact .inl (sgn_neg g)
  · refine .inr ⟨?_, rfl, cr_two r r' l0 l1 ha hb sa sb (by omega)⟩
    rcases Int.lt_or_le 0 (co * 41 - 9 * hy) with g2 | g2
    · exact .inr (sgn_pos g2)
    · left; rw [show co * 41 - 9 * hy = 0 by omega]; exact sgn_zero
/-- a layer that is crossed is crossed from both sides -/
theorem lv_flip (ds ss : List Int) (src co si hy l : Int) (ab : Bool) : (lvI ds ss src co si hy l (!ab) == 1) = (lvI ds ss src co si hy l ab == 1) := by
  unfold lvI vdI
  by_cases h : arcE ds ss src co si hy l = 0
  · rw [if_pos h, if_pos h]
    cases ab <;> simp only [nearK, farK, Bool.not_true, Bool.not_false, if_true, Bool.false_eq_true, if_false] <;>
    cases canB ss src co hy l <;> cases canB ss src co hy (l + 1) <;> rfl
  · rw [if_neg h, if_neg h]
end

section
set_option linter.unusedSimpArgs false
set_option linter.unusedVariables false
open Go.RowKit

@[irreducible] def trLo (ds ss : List Int) (src co si hy l : Int) (ab : Bool) : Int := if vaE 2 ds ss src co si hy l ab = 0 then limLo (tnLo ds ss src co hy (nearK l ab) (farK l ab)) (tnHi ds ss src co hy (nearK l ab) (farK l ab)) else 0
@[irreducible] def trHi (ds ss : List Int) (src co si hy l : Int) (ab : Bool) : Int := if vaE 2 ds ss src co si hy l ab = 0 then limHi (tnLo ds ss src co hy (nearK l ab) (farK l ab)) (tnHi ds ss src co hy (nearK l ab) (farK l ab)) else 0
@[irreducible] def trC (ds ss : List Int) (src co si hy l : Int) (ab : Bool) : Int := if vaE 2 ds ss src co si hy l ab = 0 then limC (tnLo ds ss src co hy (nearK l ab) (farK l ab)) (tnHi ds ss src co hy (nearK l ab) (farK l ab)) 3 else vaE 2 ds ss src co si hy l ab
theorem tr_ok {ds ss : List Int} {src co si hy l : Int} {ab : Bool} (h : vaE 2 ds ss src co si hy l ab = 0) : trLo ds ss src co si hy l ab = limLo (tnLo ds ss src co hy (nearK l ab) (farK l ab)) (tnHi ds ss src co hy (nearK l ab) (farK l ab)) ∧
    trHi ds ss src co si hy l ab = limHi (tnLo ds ss src co hy (nearK l ab) (farK l ab)) (tnHi ds ss src co hy (nearK l ab) (farK l ab)) ∧ trC ds ss src co si hy l ab = limC (tnLo ds ss src co hy (nearK l ab) (farK l ab)) (tnHi ds ss src co hy (nearK l ab) (farK l ab)) 3 := by
  unfold trLo trHi trC; rw [if_pos h, if_pos h, if_pos h]; exact ⟨rfl, rfl, rfl⟩
theorem tr_bad {ds ss : List Int} {src co si hy l : Int} {ab : Bool} (h : vaE 2 ds ss src co si hy l ab ≠ 0) : trLo ds ss src co si hy l ab = 0 ∧ trHi ds ss src co si hy l ab = 0 ∧ trC ds ss src co si hy l ab = vaE 2 ds ss src co si hy l ab := by
  unfold trLo trHi trC; rw [if_neg h, if_neg h, if_neg h]; exact ⟨rfl, rfl, rfl⟩

end

section
set_option linter.unusedSimpArgs false
set_option linter.unusedVariables false
open Go.RowKit

theorem specAbs_eq (a T : Int) (w : World) (h1 : -9000000000000000000 ≤ a) (h2 : a ≤ 9000000000000000000) (hT : (a.natAbs : Int) = T) :
    Calls Tryz.prog 75 #[.int .i64 a] w fun e w' => e = .returned (.int .i64 T) ∧ w = w' := by
  subst hT; exact specAbs_any a w h1 h2
end

section
set_option linter.unusedSimpArgs false
set_option linter.unusedVariables false

theorem lim_bd2 (lo hi : Int) : -1000000000000 ≤ limLo lo hi ∧ limLo lo hi ≤ 1000000000000 ∧ -1000000000000 ≤ limHi lo hi ∧ limHi lo hi ≤ 1000000000000 := by
  rcases Bool.eq_false_or_eq_true (isB lo hi) with g | g
  · obtain ⟨a, b, -⟩ := lim_yes (c := 3) g
    rw [a, b]
    unfold isB at g
    rw [Bool.and_eq_true] at g
    have h1 := inB_bd g.1; have h2 := inB_bd g.2
    omega
  · obtain ⟨a, b, -⟩ := lim_no (c := 3) g
    rw [a, b]; omega
/-- the depth at which a ray turns lies in its layer -/
theorem turnDepth_in {ds ss : List Int} {src co si hy l : Int} {ab : Bool} (h : vaE 2 ds ss src co si hy l ab = 0) :
    RayOk ds ss src co si hy ∧ 0 ≤ l ∧ l + 1 < ss.length ∧ spd ds l ≤ tLo ds ss src co si hy l ab ∧ tHi ds ss src co si hy l ab ≤ spd ds (l + 1) ∧ tLo ds ss src co si hy l ab ≤ tHi ds ss src co si hy l ab := by
  obtain ⟨h0, hv⟩ := va_ok h
  obtain ⟨hn, hf⟩ := vd_two hv
  obtain ⟨r, l0, l1, -, -⟩ := arc_ok h0
  obtain ⟨n0, n1⟩ := near_bd ab l0 l1
  obtain ⟨f0, f1⟩ := far_bd ab l0 l1
  have tk := tdOk r n0 n1 f0 f1 hn hf
  have g2 : ¬ co * spd ss (farK l ab) < hy * spd ss src := of_decide_eq_false hf
  have u := r.up l l0 l1
  have e1 : tLo ds ss src co si hy l ab = tdLo ds ss src co hy (nearK l ab) (farK l ab) := by unfold tLo; rw [if_pos h]
  have e2 : tHi ds ss src co si hy l ab = tdHi ds ss src co hy (nearK l ab) (farK l ab) := by unfold tHi; rw [if_pos h]
  rw [e1, e2]
  have r0 := tk.r0; have t0 := tk.t0; have nn := tk.n0
  have q1 : 0 ≤ tdN ds ss src co hy (nearK l ab) (farK l ab) / tdR ss co (nearK l ab) (farK l ab) := Int.ediv_nonneg nn (by unfold tdR; omega)
  have q2 : -(-tdN ds ss src co hy (nearK l ab) (farK l ab) / tdR ss co (nearK l ab) (farK l ab)) ≤ ((spd ds (farK l ab) - spd ds (nearK l ab)).natAbs : Int) := by
    apply ceil_le_of (by unfold tdR; omega)
    unfold tdN tdR
    exact Int.mul_le_mul_of_nonneg_left (by omega) t0
  have q3 := (cg_gap (n := tdN ds ss src co hy (nearK l ab) (farK l ab)) (d := tdR ss co (nearK l ab) (farK l ab)) (by unfold tdR; omega)).1
  refine ⟨r, l0, l1, ?_⟩
  unfold tdLo tdHi
  generalize tdN ds ss src co hy (nearK l ab) (farK l ab) / tdR ss co (nearK l ab) (farK l ab) = F at *
  generalize -(-tdN ds ss src co hy (nearK l ab) (farK l ab) / tdR ss co (nearK l ab) (farK l ab)) = C at *
  cases ab
  · simp only [nearK, farK, Bool.false_eq_true, if_false] at *
    rw [if_neg (by omega), if_neg (by omega)]; omega
  · simp only [nearK, farK, if_true] at *
    rw [if_pos (by omega), if_pos (by omega)]; omega
theorem turnings_ok {ds ss : List Int} {src co si hy l : Int} {ab : Bool} (h : trC ds ss src co si hy l ab = 0) :
    plE ds ss src co si hy l ab = 0 ∧ plLo ds ss src co si hy l ab = trLo ds ss src co si hy l ab ∧ plHi ds ss src co si hy l ab = trHi ds ss src co si hy l ab ∧ plV ds ss src co si hy l ab = 2 ∧ -1000000000000 ≤ arHi ds ss src co si hy l ∧ arHi ds ss src co si hy l ≤ 1000000000000 ∧
    (arC ds ss src co si hy l = 3 ∨ (arC ds ss src co si hy l = 0 ∧ trLo ds ss src co si hy l ab ≤ 2 * arHi ds ss src co si hy l)) := by
  by_cases ho : vaE 2 ds ss src co si hy l ab = 0
  · obtain ⟨h0, hv⟩ := va_ok ho
    obtain ⟨hn, hf⟩ := vd_two hv
    obtain ⟨r, l0, l1, -, -⟩ := arc_ok h0
    obtain ⟨n0, n1⟩ := near_bd ab l0 l1
    obtain ⟨f0, f1⟩ := far_bd ab l0 l1
    obtain ⟨t1, t2, t3⟩ := tr_ok ho
    obtain ⟨p1, p2, p3⟩ := pas_turn (ds := ds) hf
    obtain ⟨a1, a2, a3, a4⟩ := pl_ok h0 hn
    rw [t3] at h
    rw [p3, h, if_pos rfl, hv] at a4
    rw [a1, a2, a3, a4, p1, p2, p3, t1, t2]
    refine ⟨h, rfl, rfl, rfl, ?_⟩
    obtain ⟨k1, k2, b1, b2, b3, b4⟩ := limz (by omega) h
    rw [k1]
    have tk := tdOk r n0 n1 f0 f1 hn hf
    have L := layOk r l0 l1
    have g1 : co * spd ss (nearK l ab) < hy * spd ss src := of_decide_eq_true hn
    have g2 : ¬ co * spd ss (farK l ab) < hy * spd ss src := of_decide_eq_false hf
    have hne : spd ss l ≠ spd ss (l + 1) := by
      intro e
      cases ab
      · simp only [nearK, farK, Bool.false_eq_true, if_false] at *; rw [e] at g2; omega
      · simp only [nearK, farK, if_true] at *; rw [e] at g1; omega
    have eR : co * spd ss (farK l ab) - co * spd ss (nearK l ab) = radW ss co l := by
      have aw := L.aW
      have r0 := tk.r0
      cases ab
      · simp only [nearK, farK, Bool.false_eq_true, if_false] at *; omega
      · simp only [nearK, farK, if_true] at *; omega
    have eT : ((spd ds (farK l ab) - spd ds (nearK l ab)).natAbs : Int) = spd ds (l + 1) - spd ds l := by
      have u := r.up l l0 l1
      cases ab
      · simp only [nearK, farK, Bool.false_eq_true, if_false] at *; omega
      · simp only [nearK, farK, if_true] at *; omega
    have e1 : arC ds ss src co si hy l = limC (radN ds ss src hy l / radW ss co l) (-(-radN ds ss src hy l / radW ss co l)) 3 := by unfold arC; rw [if_pos h0, if_neg hne]
    have e3 : arHi ds ss src co si hy l = limHi (radN ds ss src hy l / radW ss co l) (-(-radN ds ss src hy l / radW ss co l)) := by unfold arHi; rw [if_pos h0, if_neg hne]
    rw [e1, e3]
    have lb := lim_bd2 (radN ds ss src hy l / radW ss co l) (-(-radN ds ss src hy l / radW ss co l))
    refine ⟨lb.2.2.1, lb.2.2.2, ?_⟩
    cases hb : isB (radN ds ss src hy l / radW ss co l) (-(-radN ds ss src hy l / radW ss co l)) with
    | false => left; exact (lim_no hb).2.2
    | true =>
      obtain ⟨-, y2, y3⟩ := lim_yes (c := 3) hb
      refine .inr ⟨y3, ?_⟩
      rw [y2]
      have s := sin_sq r n0 n1 hn
      have hs : sinLo ss src co hy (nearK l ab) ≤ hy * spd ss src := by
        apply le_of_sq (by have := r.whole; omega)
        have := s.2.1
        unfold sqI at this
        have q := sq_nn (co * spd ss (nearK l ab))
        rw [sq_diff] at this
        omega
      unfold tnLo
      rw [eR, eT]
      have r0 := tk.r0
      rw [eR] at r0
      apply ediv_le_of r0
      have c := (ce_mul (n := radN ds ss src hy l) (d := radW ss co l) r0).1
      have u := r.up l l0 l1
      have m := Int.mul_le_mul_of_nonneg_left hs (show 0 ≤ 2 * (spd ds (l + 1) - spd ds l) by omega)
      generalize -(-radN ds ss src hy l / radW ss co l) = C at *
      unfold radN at c
      generalize radW ss co l = W at *
      have z : 2 * (spd ds (l + 1) - spd ds l) * (hy * spd ss src) = 2 * (hy * spd ss src * (spd ds (l + 1) - spd ds l)) := by grind
      have z2 : 2 * C * W = 2 * (C * W) := by grind
      rw [z2]
      omega
  · have := (tr_bad ho).2.2; omega
end

section
set_option linter.unusedSimpArgs false
set_option linter.unusedVariables false

/-! roots near a grazing ray -/
theorem graze {n c p W S : Int} (n0 : 0 ≤ n) (c0 : 0 ≤ c) (h1 : p + n ≤ W) (hp : 0 < p) (h0 : 0 ≤ S) (hs : (W - p) * (W + p) < (S + 1) * (S + 1)) (hb : ∀ M, M = 2 * n * c → p ≤ c * (M - 1)) : p ≤ c * S := by
  rcases Int.lt_or_le (c * S) p with g | g
  · exfalso
    have a : n * (2 * p) ≤ (W - p) * (W + p) := Int.mul_le_mul (by omega) (by omega) (by omega) (by omega)
    have b : (2 * n) * (c * S + 1) ≤ (2 * n) * p := Int.mul_le_mul_of_nonneg_left g (by omega)
    have e : (S + 1) * (S + 1) = S * S + 2 * S + 1 := by grind
    have e2 : n * (2 * p) = (2 * n) * p := by grind
    have e3 : (2 * n) * (c * S + 1) = (2 * n * c) * S + 2 * n := by grind
    obtain ⟨M, hM⟩ : ∃ M, 2 * n * c = M := ⟨_, rfl⟩
    have hb := hb M hM.symm
    rw [hM] at e3
    rcases Int.lt_or_le S (M - 1) with k | k
    · have f : S * S ≤ S * (M - 2) := Int.mul_le_mul_of_nonneg_left (by omega) h0
      have f2 : S * (M - 2) = M * S - 2 * S := by grind
      have : 0 ≤ 2 * n := by omega
      by_cases n1 : n = 0
      · subst n1
        have : M = 0 := by grind
        omega
      · omega
    · have f := Int.mul_le_mul_of_nonneg_left k c0
      omega
  · exact g
theorem graze1 {p W S : Int} (h1 : p < W) (hp : 0 < p) (hP : p ≤ 1626900000) (h0 : 0 ≤ S) (hs : (W - p) * (W + p) < (S + 1) * (S + 1)) : p ≤ 28523 * S :=
  graze (n := 1) (by omega) (by omega) (by omega) hp h0 hs (fun M h => by omega)
theorem graze51 {p W S : Int} (h1 : p + 51 ≤ W) (hp : 0 < p) (hP : p ≤ 1626900000) (h0 : 0 ≤ S) (hs : (W - p) * (W + p) < (S + 1) * (S + 1)) : p ≤ 4000 * S :=
  graze (n := 51) (by omega) (by omega) (by omega) hp h0 hs (fun M h => by omega)
theorem graze1358 {p W S : Int} (h1 : p + 1358 ≤ W) (hp : 0 < p) (hP : p ≤ 1626900000) (h0 : 0 ≤ S) (hs : (W - p) * (W + p) < (S + 1) * (S + 1)) : p ≤ 775 * S :=
  graze (n := 1358) (by omega) (by omega) (by omega) hp h0 hs (fun M h => by omega)

/-! no direction is flatter than 957 -/
def sqr (d : Nat) : Nat → Nat → Nat → Nat
  | 0, lo, _ => lo
  | f + 1, lo, hi => let m := (lo + hi + 1) / 2; if m * m ≤ d then sqr d f m hi else sqr d f lo (m - 1)
def chk : Bool := (List.range 42).all fun a => (List.range 42).all fun b =>
  let hy := 959 + a; let co := 958 + b
  hy ≤ co || (let d := hy * hy - co * co; let r := sqr d 10 0 512; (r * r < d && d < (r + 1) * (r + 1)) || (r * r == d && Nat.gcd (Nat.gcd co r) hy != 1))
theorem chk_true : chk = true := by decide +kernel
theorem sq_lt {a b : Nat} (h : a < b) : a * a < b * b := Nat.mul_lt_mul_of_lt_of_le h (Nat.le_of_lt h) (by omega)
theorem cos_nat {co t hy : Nat} (h : co * co + t * t = hy * hy) (h1 : hy ≤ 1000) (h2 : co < hy) (hg : Nat.gcd (Nat.gcd co t) hy = 1) : co ≤ 957 := by
  rcases Nat.lt_or_ge 957 co with g | g
  · exfalso
    have c := chk_true
    unfold chk at c
    rw [List.all_eq_true] at c
    have c1 := c (hy - 959) (by rw [List.mem_range]; omega)
    rw [List.all_eq_true] at c1
    have c2 := c1 (co - 958) (by rw [List.mem_range]; omega)
    simp only [show 959 + (hy - 959) = hy by omega, show 958 + (co - 958) = co by omega, Bool.or_eq_true, Bool.and_eq_true, decide_eq_true_eq, show hy * hy - co * co = t * t by omega] at c2
    generalize sqr (t * t) 10 0 512 = r at c2
    rcases c2 with c2 | c2 | c2
    · omega
    · rcases Nat.lt_trichotomy r t with k | k | k
      · rcases Nat.lt_or_ge (r + 1) t with k2 | k2
        · have := sq_lt k2; omega
        · have : r + 1 = t := by omega
          rw [this] at c2; omega
      · rw [k] at c2; omega
      · have := sq_lt k; omega
    · have e : r = t := by
        rcases Nat.lt_trichotomy r t with k | k | k
        · have := sq_lt k; have := c2.1; simp at this; omega
        · exact k
        · have := sq_lt k; have := c2.1; simp at this; omega
      rw [e] at c2
      simp [hg] at c2
  · exact g
theorem cop_nat {co t hy : Nat} (h : co * co + t * t = hy * hy) (hg : Nat.gcd (Nat.gcd co t) hy = 1) : Nat.gcd co hy = 1 := by
  have d1 := Nat.gcd_dvd_left co hy
  have d2 := Nat.gcd_dvd_right co hy
  have d3 : (Nat.gcd co hy) ^ 2 ∣ t ^ 2 := by
    have a := Nat.mul_dvd_mul d1 d1
    have b := Nat.mul_dvd_mul d2 d2
    rw [Nat.pow_two, Nat.pow_two]
    have := Nat.dvd_sub b a
    rwa [show hy * hy - co * co = t * t by omega] at this
  have d4 := (Nat.pow_dvd_pow_iff (by omega)).1 d3
  have := Nat.dvd_gcd (Nat.dvd_gcd d1 d4) d2
  rw [hg] at this
  exact Nat.dvd_one.1 this
theorem dir_parts {co si hy : Int} (h : dirB co si hy = true) : ∃ c t y : Nat, co = c ∧ (si.natAbs = t) ∧ hy = y ∧ c * c + t * t = y * y ∧ y ≤ 1000 ∧ c < y ∧ 1 ≤ t ∧ Nat.gcd (Nat.gcd c t) y = 1 := by
  obtain ⟨a, b, c, d⟩ := dir_ok h
  unfold dirB at h
  simp only [Bool.and_eq_true, decide_eq_true_eq] at h
  obtain ⟨⟨⟨_, s0⟩, e⟩, g⟩ := h
  obtain ⟨c', rfl⟩ := Int.eq_ofNat_of_zero_le (show 0 ≤ co by omega)
  obtain ⟨y, rfl⟩ := Int.eq_ofNat_of_zero_le (show 0 ≤ hy by omega)
  refine ⟨c', si.natAbs, y, rfl, rfl, rfl, ?_, by omega, by omega, by omega, ?_⟩
  · have e2 : (si.natAbs : Int) * (si.natAbs : Int) = si * si := Int.natAbs_mul_self
    have : ((c' * c' + si.natAbs * si.natAbs : Nat) : Int) = ((y * y : Nat) : Int) := by simp only [Int.natCast_add, Int.natCast_mul]; omega
    exact Int.ofNat.inj this
  · simpa [Int.gcd] using g
theorem co_le {co si hy : Int} (h : dirB co si hy = true) : co ≤ 957 := by
  obtain ⟨c, t, y, rfl, -, rfl, e, h1, h2, -, g⟩ := dir_parts h
  have := cos_nat e h1 h2 g
  omega
/-- two directions of one slope are alike -/
theorem dir_same {co si hy co' si' hy' : Int} (h : dirB co si hy = true) (h' : dirB co' si' hy' = true) (e : co * hy' = co' * hy) : co = co' ∧ hy = hy' := by
  obtain ⟨c, t, y, rfl, -, rfl, a1, a2, a3, -, a4⟩ := dir_parts h
  obtain ⟨c', t', y', rfl, -, rfl, b1, b2, b3, -, b4⟩ := dir_parts h'
  have g := cop_nat a1 a4
  have g' := cop_nat b1 b4
  have e2 : c * y' = c' * y := by
    have : ((c * y' : Nat) : Int) = ((c' * y : Nat) : Int) := by simp only [Int.natCast_mul]; exact e
    exact Int.ofNat.inj this
  have c0 := (dir_ok h).2.2.1; have c0' := (dir_ok h').2.2.1
  have d1 : y ∣ y' := by
    have : y ∣ c * y' := ⟨c', by rw [e2, Nat.mul_comm]⟩
    exact Nat.Coprime.dvd_of_dvd_mul_left (show Nat.Coprime y c by rw [Nat.coprime_comm]; exact g) this
  have d2 : y' ∣ y := by
    have : y' ∣ c' * y := ⟨c, by rw [← e2, Nat.mul_comm]⟩
    exact Nat.Coprime.dvd_of_dvd_mul_left (show Nat.Coprime y' c' by rw [Nat.coprime_comm]; exact g') this
  have ey := Nat.dvd_antisymm d1 d2
  subst ey
  have : c = c' := Nat.eq_of_mul_eq_mul_right (by omega) e2
  subst this
  exact ⟨rfl, rfl⟩

/-! what an event in a layer adds -/
/-- a number that what a ray adds in the layer is at most that many thicknesses -/
structure KOk (ds ss : List Int) (src co hy j K : Int) : Prop where
  ne : spd ss j ≠ spd ss (j + 1) → 3690 ≤ K
  eq : spd ss j = spd ss (j + 1) → canB ss src co hy j = true → co * spd ss j ≤ K * sinLo ss src co hy j
theorem sq_part {ds ss : List Int} {src co si hy k : Int} (r : RayOk ds ss src co si hy) (k0 : 0 ≤ k) (k1 : k < ss.length) (hc : canB ss src co hy k = true) :
    1 ≤ sinLo ss src co hy k ∧ (hy * spd ss src - co * spd ss k) * (hy * spd ss src + co * spd ss k) < (sinLo ss src co hy k + 1) * (sinLo ss src co hy k + 1) ∧ 0 < co * spd ss k ∧ co * spd ss k ≤ 1626900000 ∧ co * spd ss k < hy * spd ss src := by
  have s := sin_sq r k0 k1 hc
  have p := r.part k0 k1
  have v := r.sp k k0 k1
  have c := co_le r.dir
  have c0 := r.c0
  have m := Int.mul_le_mul c v.2 (by omega) (by omega)
  exact ⟨s.1, s.2.2.2.2.2, by omega, by omega, of_decide_eq_true hc⟩
theorem cr_ne1 {ds ss : List Int} {src co si hy a b : Int} (r : RayOk ds ss src co si hy) (a0 : 0 ≤ a) (a1 : a < ss.length) (b0 : 0 ≤ b) (b1 : b < ss.length) (ha : canB ss src co hy a = true) (hb : canB ss src co hy b = true) (hlt : spd ss a < spd ss b) :
    co * (spd ss a + spd ss b) ≤ 3690 * sinLo ss src co hy a := by
  obtain ⟨s1, s2, s3, s4, s5⟩ := sq_part r a0 a1 ha
  obtain ⟨t1, t2, t3, t4, t5⟩ := sq_part r b0 b1 hb
  have va := r.sp a a0 a1; have vb := r.sp b b0 b1
  have c0 := r.c0
  have m : co * (spd ss a + 1) ≤ co * spd ss b := Int.mul_le_mul_of_nonneg_left hlt (by omega)
  rw [Int.mul_add] at m
  have k1 : co * (2 * (co * spd ss a)) ≤ (hy * spd ss src - co * spd ss a) * (hy * spd ss src + co * spd ss a) := Int.mul_le_mul (by omega) (by omega) (by omega) (by omega)
  have k2 : (co * co) * 2600000 ≤ (co * co) * (2 * spd ss a) := Int.mul_le_mul_of_nonneg_left (by omega) (sq_nn co)
  have k3 : co * (2 * (co * spd ss a)) = (co * co) * (2 * spd ss a) := by grind
  have k4 : 1612 * co < sinLo ss src co hy a + 1 := by
    rcases Int.lt_or_le (1612 * co) (sinLo ss src co hy a + 1) with g | g
    · exact g
    · exfalso
      have k5 := Int.mul_le_mul g g (by omega) (by omega)
      have k6 : (1612 * co) * (1612 * co) = (co * co) * 2598544 := by grind
      have k7 := sq_nn co
      omega
  have k8 : co * (spd ss a + spd ss b) ≤ co * 3400000 := Int.mul_le_mul_of_nonneg_left (by omega) (by omega)
  omega
theorem cr_cost {ds ss : List Int} {src co si hy j K : Int} (r : RayOk ds ss src co si hy) (j0 : 0 ≤ j) (j1 : j + 1 < ss.length) (ha : canB ss src co hy j = true) (hb : canB ss src co hy (j + 1) = true) (hK : KOk ds ss src co hy j K) :
    crHi ds ss src co hy j ≤ K * (spd ds (j + 1) - spd ds j) := by
  obtain ⟨s1, s2, s3, s4, s5⟩ := sq_part r j0 (by omega) ha
  obtain ⟨t1, t2, t3, t4, t5⟩ := sq_part r (by omega) j1 hb
  have u := r.up j j0 j1
  have c0 := r.c0
  unfold crHi crN
  apply ceil_le_of (by omega)
  have key : co * (spd ss j + spd ss (j + 1)) ≤ K * (sinLo ss src co hy j + sinLo ss src co hy (j + 1)) := by
    by_cases e : spd ss j = spd ss (j + 1)
    · have h := hK.eq e ha
      have e2 : sinLo ss src co hy (j + 1) = sinLo ss src co hy j := by unfold sinLo sqI; rw [← e]
      rw [← e, e2, Int.mul_add, Int.mul_add]
      omega
    · have h := hK.ne e
      have m := Int.mul_le_mul_of_nonneg_right h (show 0 ≤ sinLo ss src co hy j + sinLo ss src co hy (j + 1) by omega)
      rcases Int.lt_or_le (spd ss j) (spd ss (j + 1)) with g | g
      · have := cr_ne1 r j0 (by omega) (by omega) j1 ha hb g
        omega
      · have := cr_ne1 r (by omega) j1 j0 (by omega) hb ha (show spd ss (j + 1) < spd ss j by omega)
        rw [show spd ss (j + 1) + spd ss j = spd ss j + spd ss (j + 1) by omega] at this
        omega
  have m := Int.mul_le_mul_of_nonneg_left key (show 0 ≤ spd ds (j + 1) - spd ds j by omega)
  generalize spd ds (j + 1) - spd ds j = T at *
  grind
theorem tn_cost {ds ss : List Int} {src co si hy n f : Int} (r : RayOk ds ss src co si hy) (n0 : 0 ≤ n) (n1 : n < ss.length) (f0 : 0 ≤ f) (f1 : f < ss.length) (hn : canB ss src co hy n = true) (hf : canB ss src co hy f = false) :
    0 ≤ tnLo ds ss src co hy n f ∧ tnLo ds ss src co hy n f ≤ tnHi ds ss src co hy n f ∧ tnHi ds ss src co hy n f ≤ 3690 * ((spd ds f - spd ds n).natAbs : Int) ∧ spd ss n ≠ spd ss f := by
  have tk := tnOk r n0 n1 f0 f1 hn hf
  have r0 := tk.r0
  obtain ⟨s1, s2, s3, s4, s5, s6⟩ := sin_sq r n0 n1 hn
  have g2 : ¬ co * spd ss f < hy * spd ss src := of_decide_eq_false hf
  have g1 : co * spd ss n < hy * spd ss src := of_decide_eq_true hn
  have vn := r.sp n n0 n1; have vf := r.sp f f0 f1
  have c0 := r.c0
  have pn := r.part n0 n1; have pw := r.whole
  have hne : spd ss n ≠ spd ss f := by intro e; rw [e] at r0; omega
  have hR : co ≤ co * spd ss f - co * spd ss n := by
    rcases Int.lt_or_le (spd ss n) (spd ss f) with g | g
    · have m : co * (spd ss n + 1) ≤ co * spd ss f := Int.mul_le_mul_of_nonneg_left g (by omega)
      rw [Int.mul_add] at m; omega
    · have m : co * spd ss f ≤ co * spd ss n := Int.mul_le_mul_of_nonneg_left g (by omega)
      omega
  have hU : sinHi ss src co hy n ≤ 1845 * (co * spd ss f - co * spd ss n) := by
    have k1 : (hy * spd ss src - co * spd ss n) * (hy * spd ss src + co * spd ss n) ≤ (co * spd ss f - co * spd ss n) * (2 * (co * spd ss f)) := Int.mul_le_mul (by omega) (by omega) (by omega) (by omega)
    have k2 : co * spd ss f ≤ co * 1700000 := Int.mul_le_mul_of_nonneg_left vf.2 (by omega)
    have k3 : (co * spd ss f - co * spd ss n) * (2 * (co * spd ss f)) ≤ (co * spd ss f - co * spd ss n) * (3400000 * (co * spd ss f - co * spd ss n)) := Int.mul_le_mul_of_nonneg_left (by omega) (by omega)
    unfold sqI at s2
    generalize co * spd ss f - co * spd ss n = R at *
    have k4 : sinLo ss src co hy n ≤ 1844 * R := by
      apply le_of_sq (by omega)
      have e : (1844 * R) * (1844 * R) = 3400336 * (R * R) := by grind
      have e2 : R * (3400000 * R) = 3400000 * (R * R) := by grind
      have := sq_nn R
      omega
    omega
  refine ⟨Int.ediv_nonneg tk.a0 (by omega), ?_, ?_, hne⟩
  · unfold tnLo tnHi
    have f1 := (fl_mul (n := 2 * ((spd ds f - spd ds n).natAbs : Int) * sinLo ss src co hy n) (d := co * spd ss f - co * spd ss n) r0).1
    have f2 := (cg_gap (n := 2 * ((spd ds f - spd ds n).natAbs : Int) * sinHi ss src co hy n) (d := co * spd ss f - co * spd ss n) r0).1
    have f3 : 2 * ((spd ds f - spd ds n).natAbs : Int) * sinLo ss src co hy n ≤ 2 * ((spd ds f - spd ds n).natAbs : Int) * sinHi ss src co hy n := Int.mul_le_mul_of_nonneg_left s4 (by omega)
    have f4 := Int.ediv_le_ediv r0 f3
    omega
  · unfold tnHi
    apply ceil_le_of r0
    have m := Int.mul_le_mul_of_nonneg_left hU (show 0 ≤ 2 * ((spd ds f - spd ds n).natAbs : Int) by omega)
    generalize ((spd ds f - spd ds n).natAbs : Int) = T at *
    grind
end

section
set_option linter.unusedSimpArgs false
set_option linter.unusedVariables false

/-- the way of a ray: knot and direction -/
def kdNext (ds ss : List Int) (src co hy : Int) (s : Int × Bool) : Int × Bool :=
  if inn ds s.1 s.2 then (if canB ss src co hy (farK (layK s.1 s.2) s.2) then (farK (layK s.1 s.2) s.2, s.2) else (s.1, !s.2)) else (s.1, !s.2)
def kdAt (ds ss : List Int) (src co si hy : Int) : Nat → Int × Bool
  | 0 => (src, decide (0 < si))
  | n + 1 => kdNext ds ss src co hy (kdAt ds ss src co si hy n)
def kdEv (ds ss : List Int) (src co hy : Int) (s : Int × Bool) : Int :=
  if inn ds s.1 s.2 then (if canB ss src co hy (farK (layK s.1 s.2) s.2) then 1 else 2) else (if s.2 then 4 else 3)
/-- what an event adds, at least and at most -/
def kdLo (ds ss : List Int) (src co hy : Int) (s : Int × Bool) : Int :=
  if inn ds s.1 s.2 then (if canB ss src co hy (farK (layK s.1 s.2) s.2) then crLo ds ss src co hy (layK s.1 s.2) else tnLo ds ss src co hy (nearK (layK s.1 s.2) s.2) (farK (layK s.1 s.2) s.2)) else 0
def kdHi (ds ss : List Int) (src co hy : Int) (s : Int × Bool) : Int :=
  if inn ds s.1 s.2 then (if canB ss src co hy (farK (layK s.1 s.2) s.2) then crHi ds ss src co hy (layK s.1 s.2) else tnHi ds ss src co hy (nearK (layK s.1 s.2) s.2) (farK (layK s.1 s.2) s.2)) else 0
def sumN (f : Nat → Int) : Nat → Int
  | 0 => 0
  | n + 1 => sumN f n + f n
/-- the events that come into a layer -/
def cnt (ds ss : List Int) (src co si hy : Int) (j : Nat) : Nat → Nat
  | 0 => 0
  | n + 1 => cnt ds ss src co si hy j n + if inn ds (kdAt ds ss src co si hy n).1 (kdAt ds ss src co si hy n).2 = true ∧ layK (kdAt ds ss src co si hy n).1 (kdAt ds ss src co si hy n).2 = j then 1 else 0

structure KdOk (ss : List Int) (src co hy : Int) (s : Int × Bool) : Prop where
  k0 : 0 ≤ s.1
  k1 : s.1 < ss.length
  hc : canB ss src co hy s.1 = true
theorem kd_next {ds ss : List Int} {src co si hy : Int} {s : Int × Bool} (r : RayOk ds ss src co si hy) (h : KdOk ss src co hy s) : KdOk ss src co hy (kdNext ds ss src co hy s) := by
  obtain ⟨k, d⟩ := s
  unfold kdNext
  by_cases hi : inn ds k d = true
  · obtain ⟨l0, l1⟩ := lay_bd r h.k0 h.k1 hi
    obtain ⟨f0, f1⟩ := far_bd d l0 l1
    simp only [hi, if_true]
    split
    · rename_i hf; exact ⟨f0, f1, hf⟩
    · exact ⟨h.k0, h.k1, h.hc⟩
  · rw [if_neg hi]; exact ⟨h.k0, h.k1, h.hc⟩
theorem src_can {ds ss : List Int} {src co si hy : Int} (r : RayOk ds ss src co si hy) : canB ss src co hy src = true := by
  have h1 := r.sp src r.s0 r.s1
  exact decide_eq_true (Int.mul_lt_mul_of_pos_right r.c1 (by omega))
theorem kd_ok {ds ss : List Int} {src co si hy : Int} (r : RayOk ds ss src co si hy) : ∀ n, KdOk ss src co hy (kdAt ds ss src co si hy n) := by
  intro n
  induction n with
  | zero => exact ⟨r.s0, r.s1, src_can r⟩
  | succ n ih => exact kd_next r ih
theorem cnt_le (ds ss : List Int) (src co si hy : Int) (j : Nat) : ∀ n, cnt ds ss src co si hy j n ≤ n := by
  intro n
  induction n with
  | zero => exact Nat.le_refl _
  | succ n ih => rw [cnt]; split <;> omega
/-- a layer with a knot that cannot be crossed and both speeds alike is never come into -/
theorem cnt_zero {ds ss : List Int} {src co si hy : Int} {j : Nat} (r : RayOk ds ss src co si hy) (h1 : canB ss src co hy j = false) (h2 : canB ss src co hy ((j : Int) + 1) = false) : ∀ n, cnt ds ss src co si hy j n = 0 := by
  intro n
  induction n with
  | zero => rfl
  | succ n ih =>
    have ok := kd_ok r n
    rw [cnt, ih]
    rw [if_neg]
    intro ⟨hi, hl⟩
    have hc := ok.hc
    revert hi hl hc
    generalize kdAt ds ss src co si hy n = s
    obtain ⟨k, d⟩ := s
    intro hi hl hc
    cases d
    · simp only [layK, Bool.false_eq_true, if_false] at hl hc
      rw [show k = (j : Int) + 1 by omega] at hc; rw [hc] at h2; cases h2
    · simp only [layK, if_true] at hl hc
      rw [hl] at hc; rw [hc] at h1; cases h1

def psi (j k : Int) (d : Bool) : Int := if k = j then (if d then 3 else 0) else if k = j - 1 then (if d then 2 else 1) else if k = j + 1 then (if d then 1 else 2) else 1
theorem psi_le {j k : Int} {d : Bool} (h : k ≠ j) : psi j k d ≤ 2 := by unfold psi; cases d <;> grind
/-- the source above: three times the crossings -/
theorem cnt_above {ds ss : List Int} {src co si hy : Int} {j : Nat} (r : RayOk ds ss src co si hy) (hs : src < j) (j1 : (j : Int) + 1 < ss.length) (hb : canB ss src co hy j = true) (hc : canB ss src co hy ((j : Int) + 1) = true) :
    ∀ n, 3 * (cnt ds ss src co si hy j n : Int) + psi j (kdAt ds ss src co si hy n).1 (kdAt ds ss src co si hy n).2 ≤ n + 2 := by
  have ll := r.l2; have lm := r.l3; have s0 := r.s0
  by_cases ha : canB ss src co hy ((j : Int) - 1) = true
  · intro n
    induction n with
    | zero =>
      have := psi_le (d := decide (0 < si)) (show src ≠ (j : Int) by omega)
      show 3 * ((0 : Nat) : Int) + psi j src (decide (0 < si)) ≤ ((0 : Nat) : Int) + 2
      omega
    | succ n ih =>
      have ok := kd_ok r n
      rw [cnt, kdAt]
      revert ih ok
      generalize kdAt ds ss src co si hy n = s
      generalize cnt ds ss src co si hy j n = N
      obtain ⟨k, d⟩ := s
      intro ih ok
      obtain ⟨k0, k1, kc⟩ := ok
      simp only at k0 k1 kc ih ⊢
      cases hf : canB ss src co hy (farK (layK k d) d) with
      | true =>
        cases d
        · simp only [kdNext, layK, farK, inn, psi, Bool.false_eq_true, if_false, decide_eq_true_eq] at *
          simp only [hf, if_true]
          split <;> split <;> grind
        · simp only [kdNext, layK, farK, inn, psi, if_true, decide_eq_true_eq] at *
          simp only [hf, if_true]
          split <;> split <;> grind
      | false =>
        have n1 : farK (layK k d) d ≠ j := fun e => by rw [e, hb] at hf; cases hf
        have n2 : farK (layK k d) d ≠ (j : Int) + 1 := fun e => by rw [e, hc] at hf; cases hf
        have n3 : farK (layK k d) d ≠ (j : Int) - 1 := fun e => by rw [e, ha] at hf; cases hf
        cases d
        · simp only [kdNext, layK, farK, inn, psi, Bool.false_eq_true, if_false, decide_eq_true_eq] at *
          simp only [hf, Bool.false_eq_true, if_false]
          split <;> split <;> grind
        · simp only [kdNext, layK, farK, inn, psi, if_true, decide_eq_true_eq] at *
          simp only [hf, Bool.false_eq_true, if_false]
          split <;> split <;> grind
  · have ha : canB ss src co hy ((j : Int) - 1) = false := by simpa using ha
    have hsj : src ≠ (j : Int) - 1 := fun e => by have := src_can r; rw [← e, this] at ha; cases ha
    have inv : ∀ n, cnt ds ss src co si hy j n = 0 ∧ (kdAt ds ss src co si hy n).1 ≤ (j : Int) - 2 := by
      intro n
      induction n with
      | zero => exact ⟨rfl, by show src ≤ _; omega⟩
      | succ n ih =>
        rw [cnt, kdAt]
        obtain ⟨i1, i2⟩ := ih
        rw [i1]
        revert i2
        generalize kdAt ds ss src co si hy n = s
        obtain ⟨k, d⟩ := s
        intro i2
        simp only at i2 ⊢
        cases hf : canB ss src co hy (farK (layK k d) d) with
        | true =>
          have n3 : farK (layK k d) d ≠ (j : Int) - 1 := fun e => by rw [e, ha] at hf; cases hf
          cases d
          · simp only [kdNext, layK, farK, inn, Bool.false_eq_true, if_false, decide_eq_true_eq] at *
            simp only [hf, if_true]
            constructor
            · rw [if_neg (by omega)]
            · split <;> grind
          · simp only [kdNext, layK, farK, inn, if_true, decide_eq_true_eq] at *
            simp only [hf, if_true]
            constructor
            · rw [if_neg (by omega)]
            · split <;> grind
        | false =>
          cases d
          · simp only [kdNext, layK, farK, inn, Bool.false_eq_true, if_false, decide_eq_true_eq] at *
            simp only [hf, Bool.false_eq_true, if_false]
            constructor
            · rw [if_neg (by omega)]
            · split <;> grind
          · simp only [kdNext, layK, farK, inn, if_true, decide_eq_true_eq] at *
            simp only [hf, Bool.false_eq_true, if_false]
            constructor
            · rw [if_neg (by omega)]
            · split <;> grind
    intro n
    obtain ⟨i1, i2⟩ := inv n
    rw [i1]
    unfold psi
    rw [if_neg (by omega), if_neg (by omega), if_neg (by omega)]
    omega
def psj (j k : Int) (d : Bool) : Int := if k = j + 1 then (if d then 0 else 3) else if k = j + 2 then (if d then 1 else 2) else if k = j then (if d then 2 else 1) else 1
theorem psj_le {j k : Int} {d : Bool} (h : k ≠ j + 1) : psj j k d ≤ 2 := by unfold psj; cases d <;> grind
/-- the source below -/
theorem cnt_below {ds ss : List Int} {src co si hy : Int} {j : Nat} (r : RayOk ds ss src co si hy) (hs : (j : Int) + 1 < src) (j1 : (j : Int) + 1 < ss.length) (hb : canB ss src co hy j = true) (hc : canB ss src co hy ((j : Int) + 1) = true) :
    ∀ n, 3 * (cnt ds ss src co si hy j n : Int) + psj j (kdAt ds ss src co si hy n).1 (kdAt ds ss src co si hy n).2 ≤ n + 2 := by
  have ll := r.l2; have lm := r.l3; have s0 := r.s0; have s1 := r.s1
  by_cases ha : canB ss src co hy ((j : Int) + 2) = true
  · intro n
    induction n with
    | zero =>
      have := psj_le (d := decide (0 < si)) (show src ≠ (j : Int) + 1 by omega)
      show 3 * ((0 : Nat) : Int) + psj j src (decide (0 < si)) ≤ ((0 : Nat) : Int) + 2
      omega
    | succ n ih =>
      have ok := kd_ok r n
      rw [cnt, kdAt]
      revert ih ok
      generalize kdAt ds ss src co si hy n = s
      generalize cnt ds ss src co si hy j n = N
      obtain ⟨k, d⟩ := s
      intro ih ok
      obtain ⟨k0, k1, kc⟩ := ok
      simp only at k0 k1 kc ih ⊢
      cases hf : canB ss src co hy (farK (layK k d) d) with
      | true =>
        cases d
        · simp only [kdNext, layK, farK, inn, psj, Bool.false_eq_true, if_false, decide_eq_true_eq] at *
          simp only [hf, if_true]
          split <;> split <;> grind
        · simp only [kdNext, layK, farK, inn, psj, if_true, decide_eq_true_eq] at *
          simp only [hf, if_true]
          split <;> split <;> grind
      | false =>
        have n1 : farK (layK k d) d ≠ j := fun e => by rw [e, hb] at hf; cases hf
        have n2 : farK (layK k d) d ≠ (j : Int) + 1 := fun e => by rw [e, hc] at hf; cases hf
        have n3 : farK (layK k d) d ≠ (j : Int) + 2 := fun e => by rw [e, ha] at hf; cases hf
        cases d
        · simp only [kdNext, layK, farK, inn, psj, Bool.false_eq_true, if_false, decide_eq_true_eq] at *
          simp only [hf, Bool.false_eq_true, if_false]
          split <;> split <;> grind
        · simp only [kdNext, layK, farK, inn, psj, if_true, decide_eq_true_eq] at *
          simp only [hf, Bool.false_eq_true, if_false]
          split <;> split <;> grind
  · have ha : canB ss src co hy ((j : Int) + 2) = false := by simpa using ha
    have hsj : src ≠ (j : Int) + 2 := fun e => by have := src_can r; rw [← e, this] at ha; cases ha
    have inv : ∀ n, cnt ds ss src co si hy j n = 0 ∧ (j : Int) + 3 ≤ (kdAt ds ss src co si hy n).1 := by
      intro n
      induction n with
      | zero => exact ⟨rfl, by show _ ≤ src; omega⟩
      | succ n ih =>
        rw [cnt, kdAt]
        obtain ⟨i1, i2⟩ := ih
        rw [i1]
        revert i2
        generalize kdAt ds ss src co si hy n = s
        obtain ⟨k, d⟩ := s
        intro i2
        simp only at i2 ⊢
        cases hf : canB ss src co hy (farK (layK k d) d) with
        | true =>
          have n3 : farK (layK k d) d ≠ (j : Int) + 2 := fun e => by rw [e, ha] at hf; cases hf
          cases d
          · simp only [kdNext, layK, farK, inn, Bool.false_eq_true, if_false, decide_eq_true_eq] at *
            simp only [hf, if_true]
            constructor
            · rw [if_neg (by omega)]
            · split <;> grind
          · simp only [kdNext, layK, farK, inn, if_true, decide_eq_true_eq] at *
            simp only [hf, if_true]
            constructor
            · rw [if_neg (by omega)]
            · split <;> grind
        | false =>
          cases d
          · simp only [kdNext, layK, farK, inn, Bool.false_eq_true, if_false, decide_eq_true_eq] at *
            simp only [hf, Bool.false_eq_true, if_false]
            constructor
            · rw [if_neg (by omega)]
            · split <;> grind
          · simp only [kdNext, layK, farK, inn, if_true, decide_eq_true_eq] at *
            simp only [hf, Bool.false_eq_true, if_false]
            constructor
            · rw [if_neg (by omega)]
            · split <;> grind
    intro n
    obtain ⟨i1, i2⟩ := inv n
    rw [i1]
    unfold psj
    rw [if_neg (by omega), if_neg (by omega), if_neg (by omega)]
    omega
theorem cnt34 {ds ss : List Int} {src co si hy : Int} {j n : Nat} (r : RayOk ds ss src co si hy) (h1 : src ≠ j) (h2 : src ≠ (j : Int) + 1) (j1 : (j : Int) + 1 < ss.length) (hb : canB ss src co hy j = true) (hc : canB ss src co hy ((j : Int) + 1) = true) (hn : n ≤ 100) : cnt ds ss src co si hy j n ≤ 34 := by
  rcases Int.lt_or_le src j with g | g
  · have a := cnt_above r g j1 hb hc n
    have b : 0 ≤ psi j (kdAt ds ss src co si hy n).1 (kdAt ds ss src co si hy n).2 := by unfold psi; split <;> (try split) <;> (try split) <;> (try split) <;> omega
    omega
  · have a := cnt_below r (show (j : Int) + 1 < src by omega) j1 hb hc n
    have b : 0 ≤ psj j (kdAt ds ss src co si hy n).1 (kdAt ds ss src co si hy n).2 := by unfold psj; split <;> (try split) <;> (try split) <;> (try split) <;> omega
    omega
end

section
set_option linter.unusedSimpArgs false
set_option linter.unusedVariables false

theorem sumN_congr {f g : Nat → Int} : ∀ n, (∀ i, i < n → f i = g i) → sumN f n = sumN g n := by
  intro n
  induction n with
  | zero => intro _; rfl
  | succ n ih => intro h; rw [sumN, sumN, ih (fun i hi => h i (by omega)), h n (by omega)]
theorem sumN_le {f g : Nat → Int} : ∀ n, (∀ i, i < n → f i ≤ g i) → sumN f n ≤ sumN g n := by
  intro n
  induction n with
  | zero => intro _; exact Int.le_refl _
  | succ n ih => intro h; rw [sumN, sumN]; have := ih (fun i hi => h i (by omega)); have := h n (by omega); omega
theorem sumN_add (f g : Nat → Int) : ∀ n, sumN (fun i => f i + g i) n = sumN f n + sumN g n := by
  intro n
  induction n with
  | zero => rfl
  | succ n ih => rw [sumN, sumN, sumN, ih]; omega
theorem sumN_nn {f : Nat → Int} (n : Nat) (h : ∀ i, i < n → 0 ≤ f i) : 0 ≤ sumN f n := by
  have := sumN_le (f := fun _ => 0) n h
  have e : ∀ m, sumN (fun _ => 0) m = 0 := by intro m; induction m with
    | zero => rfl
    | succ m ih => rw [sumN, ih]; rfl
  rw [e] at this; exact this
theorem sumN_mono {f : Nat → Int} (h : ∀ i, 0 ≤ f i) {m n : Nat} (hm : m ≤ n) : sumN f m ≤ sumN f n := by
  induction n with
  | zero => rw [show m = 0 by omega]; exact Int.le_refl _
  | succ n ih =>
    rcases Nat.lt_or_ge n m with g | g
    · rw [show m = n + 1 by omega]; exact Int.le_refl _
    · have := ih g; rw [sumN]; have := h n; omega
theorem sumN_one (v : Nat → Int) (m : Nat) : ∀ L, sumN (fun j => if j = m then v j else 0) L = if m < L then v m else 0 := by
  intro L
  induction L with
  | zero => rfl
  | succ L ih =>
    rw [sumN, ih]
    by_cases h1 : m < L
    · rw [if_pos h1, if_neg (by omega), if_pos (by omega)]; omega
    · by_cases h2 : L = m
      · subst h2; rw [if_neg h1, if_pos rfl, if_pos (by omega)]; omega
      · rw [if_neg h1, if_neg h2, if_neg (by omega)]; omega
theorem sumN_tel (f : Nat → Int) : ∀ n, sumN (fun j => f (j + 1) - f j) n = f n - f 0 := by
  intro n
  induction n with
  | zero => simp [sumN]
  | succ n ih => rw [sumN, ih]; omega
theorem sumN_mul (c : Int) (f : Nat → Int) : ∀ n, sumN (fun j => c * f j) n = c * sumN f n := by
  intro n
  induction n with
  | zero => simp [sumN]
  | succ n ih => rw [sumN, sumN, ih, Int.mul_add]

/-- how many thicknesses of a layer an event there adds at most -/
def kOf (ss : List Int) (src co hy : Int) (j : Int) : Int :=
  if spd ss j ≠ spd ss (j + 1) then 3690 else if src = j ∨ src = j + 1 then 957 else if hy * spd ss src - co * spd ss j ≤ 50 then 28523 else if hy * spd ss src - co * spd ss j < 1358 then 4000 else 775
theorem kOf_bd (ss : List Int) (src co hy : Int) (j : Int) : 0 ≤ kOf ss src co hy j ∧ kOf ss src co hy j ≤ 28523 := by
  unfold kOf; split <;> (try split) <;> (try split) <;> (try split) <;> omega
theorem sin_src {ds ss : List Int} {src co si hy j : Int} (r : RayOk ds ss src co si hy) (j0 : 0 ≤ j) (j1 : j < ss.length) (hj : spd ss j = spd ss src) (hc : canB ss src co hy j = true) : co * spd ss j ≤ 957 * sinLo ss src co hy j := by
  obtain ⟨s1, s2, s3, s4, s5⟩ := sq_part r j0 j1 hc
  have c := co_le r.dir
  have v := r.sp src r.s0 r.s1
  have c0 := r.c0; have c1 := r.c1
  rw [hj] at s2 ⊢
  generalize spd ss src = V at *
  generalize sinLo ss src co hy j = S at *
  have k1 : (hy - co) * V * ((hy + co) * V) = (hy * V - co * V) * (hy * V + co * V) := by grind
  have k2 : 1 * V ≤ (hy - co) * V := Int.mul_le_mul_of_nonneg_right (by omega) (by omega)
  have k3 : 1 * V ≤ (hy + co) * V := Int.mul_le_mul_of_nonneg_right (by omega) (by omega)
  have k4 : V * V ≤ (hy - co) * V * ((hy + co) * V) := Int.mul_le_mul (by omega) (by omega) (by omega) (by omega)
  have k5 : V ≤ S := by
    rcases Int.lt_or_le S V with g | g
    · have := Int.mul_le_mul (show S + 1 ≤ V by omega) (show S + 1 ≤ V by omega) (by omega) (by omega)
      omega
    · exact g
  have k6 : co * V ≤ 957 * V := Int.mul_le_mul_of_nonneg_right c (by omega)
  omega
theorem kOf_ok {ds ss : List Int} {src co si hy j : Int} (r : RayOk ds ss src co si hy) (j0 : 0 ≤ j) (j1 : j + 1 < ss.length) : KOk ds ss src co hy j (kOf ss src co hy j) := by
  constructor
  · intro h; unfold kOf; rw [if_pos h]; omega
  · intro h hc
    obtain ⟨s1, s2, s3, s4, s5⟩ := sq_part r j0 (by omega) hc
    unfold kOf
    rw [if_neg (by intro g; exact g h)]
    split
    · rename_i hs
      apply sin_src r j0 (by omega) _ hc
      rcases hs with e | e
      · rw [e]
      · rw [e, h]
    · split
      · exact graze1 s5 s3 s4 (by omega) s2
      · split
        · exact graze51 (by omega) s3 s4 (by omega) s2
        · exact graze1358 (by omega) s3 s4 (by omega) s2
theorem kd_cost {ds ss : List Int} {src co si hy : Int} {s : Int × Bool} (r : RayOk ds ss src co si hy) (h : KdOk ss src co hy s) :
    0 ≤ kdLo ds ss src co hy s ∧ kdLo ds ss src co hy s ≤ kdHi ds ss src co hy s ∧
    (inn ds s.1 s.2 = true → kdHi ds ss src co hy s ≤ kOf ss src co hy (layK s.1 s.2) * (spd ds (layK s.1 s.2 + 1) - spd ds (layK s.1 s.2))) := by
  obtain ⟨k, d⟩ := s
  obtain ⟨k0, k1, hc⟩ := h
  simp only at k0 k1 hc ⊢
  unfold kdLo kdHi
  simp only
  by_cases hi : inn ds k d = true
  · obtain ⟨l0, l1⟩ := lay_bd r k0 k1 hi
    obtain ⟨f0, f1⟩ := far_bd d l0 l1
    have hn := near_lay k d
    have K := kOf_ok r l0 l1
    rw [if_pos hi, if_pos hi]
    generalize hl : layK k d = l at *
    have hcn : canB ss src co hy (nearK l d) = true := by rw [hn]; exact hc
    by_cases hf : canB ss src co hy (farK l d) = true
    · rw [if_pos hf, if_pos hf]
      have ha : canB ss src co hy l = true := by cases d <;> simp_all [nearK, farK]
      have hb : canB ss src co hy (l + 1) = true := by cases d <;> simp_all [nearK, farK]
      exact ⟨crLo_nn r l0 l1 ha hb, cr_two r r l0 l1 ha hb ha hb (by omega), fun _ => cr_cost r l0 l1 ha hb K⟩
    · rw [if_neg hf, if_neg hf]
      have hf : canB ss src co hy (farK l d) = false := by simpa using hf
      obtain ⟨n0, n1⟩ := near_bd d l0 l1
      obtain ⟨t1, t2, t3, t4⟩ := tn_cost r n0 n1 f0 f1 hcn hf
      refine ⟨t1, t2, fun _ => ?_⟩
      have u := r.up l l0 l1
      have e : ((spd ds (farK l d) - spd ds (nearK l d)).natAbs : Int) = spd ds (l + 1) - spd ds l := by
        cases d
        · simp only [nearK, farK, Bool.false_eq_true, if_false] at *; omega
        · simp only [nearK, farK, if_true] at *; omega
      have ne : spd ss l ≠ spd ss (l + 1) := by
        cases d
        · simp only [nearK, farK, Bool.false_eq_true, if_false] at *; exact fun e => t4 e.symm
        · simp only [nearK, farK, if_true] at *; exact t4
      rw [e] at t3
      have := Int.mul_le_mul_of_nonneg_right (K.ne ne) (show 0 ≤ spd ds (l + 1) - spd ds l by omega)
      omega
  · rw [if_neg hi, if_neg hi]
    exact ⟨Int.le_refl _, Int.le_refl _, fun h => absurd h hi⟩
/-- all that a ray's events add, layer by layer -/
theorem raw_le {ds ss : List Int} {src co si hy : Int} (r : RayOk ds ss src co si hy) : ∀ n,
    sumN (fun i => kdHi ds ss src co hy (kdAt ds ss src co si hy i)) n ≤ sumN (fun j => (cnt ds ss src co si hy j n : Int) * (kOf ss src co hy j * (spd ds ((j : Int) + 1) - spd ds j))) (ds.length - 1) := by
  have ll := r.l2; have lm := r.l3
  intro n
  induction n with
  | zero =>
    simp only [sumN]
    apply sumN_nn
    intro j hj
    simp [cnt]
  | succ n ih =>
    rw [sumN]
    have ok := kd_ok r n
    have c := (kd_cost r ok).2.2
    by_cases hi : inn ds (kdAt ds ss src co si hy n).1 (kdAt ds ss src co si hy n).2 = true
    · obtain ⟨l0, l1⟩ := lay_bd r ok.k0 ok.k1 hi
      have c := c hi
      obtain ⟨m, hm⟩ := Int.eq_ofNat_of_zero_le l0
      have e : sumN (fun j => (cnt ds ss src co si hy j (n + 1) : Int) * (kOf ss src co hy j * (spd ds ((j : Int) + 1) - spd ds j))) (ds.length - 1) = sumN (fun j => (cnt ds ss src co si hy j n : Int) * (kOf ss src co hy j * (spd ds ((j : Int) + 1) - spd ds j))) (ds.length - 1) + sumN (fun j => if j = m then kOf ss src co hy j * (spd ds ((j : Int) + 1) - spd ds j) else 0) (ds.length - 1) := by
        rw [← sumN_add]
        apply sumN_congr
        intro j hj
        simp only [cnt]
        by_cases hjm : j = m
        · rw [if_pos hjm, if_pos ⟨hi, by rw [hm, hjm]⟩, Int.natCast_add, Int.add_mul]; simp
        · rw [if_neg hjm, if_neg (by intro h; apply hjm; have := h.2; omega)]; simp
      rw [e, sumN_one, if_pos (by omega)]
      rw [hm] at c
      omega
    · have e : sumN (fun j => (cnt ds ss src co si hy j (n + 1) : Int) * (kOf ss src co hy j * (spd ds ((j : Int) + 1) - spd ds j))) (ds.length - 1) = sumN (fun j => (cnt ds ss src co si hy j n : Int) * (kOf ss src co hy j * (spd ds ((j : Int) + 1) - spd ds j))) (ds.length - 1) := by
        apply sumN_congr
        intro j hj
        simp only [cnt]
        rw [if_neg (fun h => hi h.1)]; simp
      rw [e]
      have : kdHi ds ss src co hy (kdAt ds ss src co si hy n) = 0 := by unfold kdHi; rw [if_neg hi]
      omega
/-- the layer's share, of one ray -/
theorem share {ds ss : List Int} {src co si hy : Int} {j n : Nat} (r : RayOk ds ss src co si hy) (j1 : (j : Int) + 1 < ss.length) (hn : n ≤ 100) :
    (spd ss j ≠ spd ss ((j : Int) + 1) ∨ src = j ∨ src = (j : Int) + 1 → kOf ss src co hy j ≤ 3690) ∧
    (spd ss j = spd ss ((j : Int) + 1) → src ≠ j → src ≠ (j : Int) + 1 → cnt ds ss src co si hy j n ≤ 34 ∧ (canB ss src co hy j = false → cnt ds ss src co si hy j n = 0)) := by
  constructor
  · intro h
    unfold kOf
    by_cases h1 : spd ss j ≠ spd ss ((j : Int) + 1)
    · rw [if_pos h1]; omega
    · rw [if_neg h1, if_pos (by rcases h with h | h; exact absurd h h1; exact h)]; omega
  · intro h h1 h2
    have e : canB ss src co hy ((j : Int) + 1) = canB ss src co hy j := by unfold canB; rw [h]
    by_cases hc : canB ss src co hy j = true
    · exact ⟨cnt34 r h1 h2 j1 hc (e.trans hc) hn, fun g => by rw [g] at hc; cases hc⟩
    · have hc : canB ss src co hy j = false := by simpa using hc
      have := cnt_zero r hc (e.trans hc) n
      exact ⟨by omega, fun _ => this⟩
theorem nat_mul_le {a b : Nat} {k K : Int} (h : a ≤ b) (k0 : 0 ≤ k) (h2 : k ≤ K) : (a : Int) * k ≤ (b : Int) * K := Int.mul_le_mul (by omega) h2 k0 (by omega)
/-- of two grazing rays of one source only one is dear in a layer -/
theorem two_graze {ds ss : List Int} {src co si hy co' si' hy' j : Int} (r : RayOk ds ss src co si hy) (r' : RayOk ds ss src co' si' hy') (hD : co * hy' ≠ co' * hy)
    (hg : hy * spd ss src - co * spd ss j ≤ 50) (hc : canB ss src co hy j = true) (hc' : canB ss src co' hy' j = true) : 1358 ≤ hy' * spd ss src - co' * spd ss j := by
  have a := of_decide_eq_true hc
  have b := of_decide_eq_true hc'
  have v := r.sp src r.s0 r.s1
  have c := co_le r.dir; have c' := co_le r'.dir
  have c0 := r.c0; have c0' := r'.c0
  have e : (hy * spd ss src - co * spd ss j) * co' - (hy' * spd ss src - co' * spd ss j) * co = (hy * co' - hy' * co) * spd ss src := by grind
  generalize spd ss src = V at *
  generalize hn : hy * V - co * spd ss j = n at *
  generalize hm : hy' * V - co' * spd ss j = m at *
  have e3 : co' * hy = hy * co' := Int.mul_comm _ _
  have e4 : co * hy' = hy' * co := Int.mul_comm _ _
  have n1 : n * co' ≤ 50 * co' := Int.mul_le_mul_of_nonneg_right hg (by omega)
  have n2 : 0 ≤ n * co' := Int.mul_nonneg (by omega) (by omega)
  have m2 : 0 ≤ m * co := Int.mul_nonneg (by omega) (by omega)
  rcases Int.lt_or_le 0 (hy * co' - hy' * co) with g | g
  · have := Int.mul_le_mul_of_nonneg_right (show 1 ≤ hy * co' - hy' * co by omega) (show 0 ≤ V by omega)
    omega
  · have := Int.mul_le_mul_of_nonneg_right (show hy * co' - hy' * co ≤ -1 by omega) (show 0 ≤ V by omega)
    rcases Int.lt_or_le m 1358 with q | q
    · have := Int.mul_le_mul (show m ≤ 1357 by omega) c (by omega) (by omega)
      omega
    · exact q
theorem shares {ds ss : List Int} {src co si hy co' si' hy' : Int} {j n : Nat} (r : RayOk ds ss src co si hy) (r' : RayOk ds ss src co' si' hy') (hD : co * hy' ≠ co' * hy) (j1 : (j : Int) + 1 < ss.length) (hn : n ≤ 100) :
    (cnt ds ss src co si hy j n : Int) * kOf ss src co hy j + (cnt ds ss src co' si' hy' j n : Int) * kOf ss src co' hy' j ≤ 999000 := by
  obtain ⟨a1, a2⟩ := share r j1 hn
  obtain ⟨b1, b2⟩ := share r' j1 hn
  have k0 := (kOf_bd ss src co hy j).1; have k0' := (kOf_bd ss src co' hy' j).1
  by_cases h : spd ss j ≠ spd ss ((j : Int) + 1) ∨ src = j ∨ src = (j : Int) + 1
  · have x := nat_mul_le (Nat.le_trans (cnt_le ds ss src co si hy j n) hn) k0 (a1 h)
    have y := nat_mul_le (Nat.le_trans (cnt_le ds ss src co' si' hy' j n) hn) k0' (b1 h)
    omega
  · have h1 : spd ss j = spd ss ((j : Int) + 1) := Classical.byContradiction fun g => h (.inl g)
    have h2 : src ≠ j := fun g => h (.inr (.inl g))
    have h3 : src ≠ (j : Int) + 1 := fun g => h (.inr (.inr g))
    obtain ⟨a3, a4⟩ := a2 h1 h2 h3
    obtain ⟨b3, b4⟩ := b2 h1 h2 h3
    have d1 := (kOf_bd ss src co hy j).2; have d2 := (kOf_bd ss src co' hy' j).2
    by_cases hc : canB ss src co hy j = true
    · by_cases hc' : canB ss src co' hy' j = true
      · have q : kOf ss src co hy j + kOf ss src co' hy' j ≤ 29298 := by
          have e1 : kOf ss src co hy j = if hy * spd ss src - co * spd ss j ≤ 50 then 28523 else if hy * spd ss src - co * spd ss j < 1358 then 4000 else 775 := by
            unfold kOf; rw [if_neg (by intro g; exact g h1), if_neg (by intro g; rcases g with g | g; exact h2 g; exact h3 g)]
          have e2 : kOf ss src co' hy' j = if hy' * spd ss src - co' * spd ss j ≤ 50 then 28523 else if hy' * spd ss src - co' * spd ss j < 1358 then 4000 else 775 := by
            unfold kOf; rw [if_neg (by intro g; exact g h1), if_neg (by intro g; rcases g with g | g; exact h2 g; exact h3 g)]
          rw [e1, e2]
          by_cases g : hy * spd ss src - co * spd ss j ≤ 50
          · have := two_graze r r' hD g hc hc'
            rw [if_pos g, if_neg (by omega), if_neg (by omega)]; omega
          · rw [if_neg g]
            by_cases g' : hy' * spd ss src - co' * spd ss j ≤ 50
            · have := two_graze r' r (fun e => hD e.symm) g' hc' hc
              rw [if_pos g', if_neg (by omega)]; omega
            · rw [if_neg g']
              split <;> split <;> omega
        have x := nat_mul_le a3 k0 (Int.le_refl _)
        have y := nat_mul_le b3 k0' (Int.le_refl _)
        omega
      · rw [b4 (by simpa using hc')]
        have x := nat_mul_le a3 k0 d1
        omega
    · rw [a4 (by simpa using hc)]
      have y := nat_mul_le b3 k0' d2
      omega
theorem share1 {ds ss : List Int} {src co si hy : Int} {j n : Nat} (r : RayOk ds ss src co si hy) (j1 : (j : Int) + 1 < ss.length) (hn : n ≤ 100) :
    (cnt ds ss src co si hy j n : Int) * kOf ss src co hy j ≤ 999000 := by
  obtain ⟨a1, a2⟩ := share r j1 hn
  have k0 := (kOf_bd ss src co hy j).1
  by_cases h : spd ss j ≠ spd ss ((j : Int) + 1) ∨ src = j ∨ src = (j : Int) + 1
  · have x := nat_mul_le (Nat.le_trans (cnt_le ds ss src co si hy j n) hn) k0 (a1 h)
    omega
  · have h1 : spd ss j = spd ss ((j : Int) + 1) := Classical.byContradiction fun g => h (.inl g)
    have x := nat_mul_le (a2 h1 (fun g => h (.inr (.inl g))) (fun g => h (.inr (.inr g)))).1 k0 (kOf_bd ss src co hy j).2
    omega
theorem thick_sum {ds ss : List Int} {src co si hy : Int} (r : RayOk ds ss src co si hy) : sumN (fun j => 999000 * (spd ds ((j : Int) + 1) - spd ds j)) (ds.length - 1) ≤ 999000000000 := by
  rw [sumN_mul]
  have e := sumN_tel (fun j : Nat => spd ds (j : Int)) (ds.length - 1)
  have e2 : sumN (fun j => spd ds ((j : Int) + 1) - spd ds (j : Int)) (ds.length - 1) = spd ds ((ds.length - 1 : Nat) : Int) - spd ds ((0 : Nat) : Int) := by
    rw [← e]; apply sumN_congr; intro i _; simp
  rw [e2]
  have l0 := r.l0; have l2 := r.l2; have l3 := r.l3
  have a := r.dp ((ds.length - 1 : Nat) : Int) (by omega) (by omega)
  have b := r.dp ((0 : Nat) : Int) (by omega) (by omega)
  omega
/-- one ray never comes to the limit -/
theorem raw_lim {ds ss : List Int} {src co si hy : Int} (r : RayOk ds ss src co si hy) {n : Nat} (hn : n ≤ 100) : sumN (fun i => kdHi ds ss src co hy (kdAt ds ss src co si hy i)) n ≤ 999000000000 := by
  refine Int.le_trans (raw_le r n) (Int.le_trans (sumN_le _ ?_) (thick_sum r))
  intro j hj
  have ll := r.l2; have lm := r.l3
  have s := share1 r (j := j) (n := n) (by omega) hn
  have u := r.up j (by omega) (by omega)
  have := Int.mul_le_mul_of_nonneg_right s (show 0 ≤ spd ds ((j : Int) + 1) - spd ds j by omega)
  rw [← Int.mul_assoc]; exact this
/-- nor do two of one source together -/
theorem raw_two {ds ss : List Int} {src co si hy co' si' hy' : Int} (r : RayOk ds ss src co si hy) (r' : RayOk ds ss src co' si' hy') (hD : co * hy' ≠ co' * hy) {n : Nat} (hn : n ≤ 100) :
    sumN (fun i => kdHi ds ss src co hy (kdAt ds ss src co si hy i)) n + sumN (fun i => kdHi ds ss src co' hy' (kdAt ds ss src co' si' hy' i)) n ≤ 999000000000 := by
  have a := raw_le r n; have b := raw_le r' n
  have e := sumN_add (fun j => (cnt ds ss src co si hy j n : Int) * (kOf ss src co hy j * (spd ds ((j : Int) + 1) - spd ds j))) (fun j => (cnt ds ss src co' si' hy' j n : Int) * (kOf ss src co' hy' j * (spd ds ((j : Int) + 1) - spd ds j))) (ds.length - 1)
  refine Int.le_trans (show _ ≤ sumN (fun j => (cnt ds ss src co si hy j n : Int) * (kOf ss src co hy j * (spd ds ((j : Int) + 1) - spd ds j)) + (cnt ds ss src co' si' hy' j n : Int) * (kOf ss src co' hy' j * (spd ds ((j : Int) + 1) - spd ds j))) (ds.length - 1) by omega) (Int.le_trans (sumN_le _ ?_) (thick_sum r))
  intro j hj
  have ll := r.l2; have lm := r.l3
  have s := shares r r' hD (j := j) (n := n) (by omega) hn
  have u := r.up j (by omega) (by omega)
  have := Int.mul_le_mul_of_nonneg_right s (show 0 ≤ spd ds ((j : Int) + 1) - spd ds j by omega)
  rw [Int.add_mul, Int.mul_assoc, Int.mul_assoc] at this
  exact this
/-- what the greater of two rays' events add -/
theorem raw_max {ds ss : List Int} {src co si hy co' si' hy' : Int} (r : RayOk ds ss src co si hy) (r' : RayOk ds ss src co' si' hy') (hs : decide (0 < si) = decide (0 < si')) {n : Nat} (hn : n ≤ 100) :
    sumN (fun i => max (kdHi ds ss src co hy (kdAt ds ss src co si hy i)) (kdHi ds ss src co' hy' (kdAt ds ss src co' si' hy' i))) n ≤ 999000000000 := by
  by_cases hD : co * hy' = co' * hy
  · obtain ⟨rfl, rfl⟩ := dir_same r.dir r'.dir hD
    have e : ∀ i, kdAt ds ss src co si' hy i = kdAt ds ss src co si hy i := by
      intro i
      induction i with
      | zero => rw [kdAt, kdAt, hs]
      | succ i ih => rw [kdAt, kdAt, ih]
    refine Int.le_trans (sumN_le n ?_) (raw_lim r hn)
    intro i _
    rw [e]
    omega
  · refine Int.le_trans (sumN_le n ?_) (Int.le_trans (Int.le_of_eq (sumN_add _ _ n)) (raw_two r r' hD hn))
    intro i _
    have a := kd_cost r (kd_ok r i); have b := kd_cost r' (kd_ok r' i)
    omega
theorem lim_in {lo hi c : Int} (h0 : 0 ≤ lo) (h1 : lo ≤ hi) (h2 : hi ≤ 1000000000000) : limLo lo hi = lo ∧ limHi lo hi = hi ∧ limC lo hi c = 0 := by
  apply lim_yes
  simp only [isB, isV, inB, Bool.and_eq_true, decide_eq_true_eq]; omega
/-- what an event is, where nothing comes to the limit -/
theorem step_raw {ds ss : List Int} {src co si hy : Int} {k lo hi : Int} {d : Bool} (r : RayOk ds ss src co si hy) (h : KdOk ss src co hy (k, d)) (b0 : 0 ≤ lo) (b1 : lo ≤ hi) (b2 : hi + kdHi ds ss src co hy (k, d) ≤ 1000000000000) :
    StIs ds ss src co hy k d lo hi 0 (kdEv ds ss src co hy (k, d)) (kdNext ds ss src co hy (k, d)).1 (kdNext ds ss src co hy (k, d)).2 (lo + kdLo ds ss src co hy (k, d)) (hi + kdHi ds ss src co hy (k, d)) (kdLo ds ss src co hy (k, d)) (kdHi ds ss src co hy (k, d)) := by
  have c := kd_cost r h
  by_cases hi_ : inn ds k d = true
  · unfold kdEv kdNext
    by_cases hf : canB ss src co hy (farK (layK k d) d) = true
    · obtain ⟨p1, p2, p3⟩ := pas_cross (ds := ds) hf
      have e1 : kdLo ds ss src co hy (k, d) = crLo ds ss src co hy (layK k d) := by unfold kdLo; simp only [hi_, hf, if_true]
      have e2 : kdHi ds ss src co hy (k, d) = crHi ds ss src co hy (layK k d) := by unfold kdHi; simp only [hi_, hf, if_true]
      rw [e1, e2] at c
      rw [e2] at b2
      obtain ⟨q1, q2, q3⟩ := lim_in (c := 3) c.1 c.2.1 (by omega)
      rw [q1] at p1; rw [q2] at p2; rw [q3] at p3
      obtain ⟨s1, s2, s3⟩ := lim_in (c := 3) (lo := lo + crLo ds ss src co hy (layK k d)) (hi := hi + crHi ds ss src co hy (layK k d)) (by omega) (by omega) b2
      have eL : sumL ds ss src co hy k d lo hi = lo + crLo ds ss src co hy (layK k d) := by unfold sumL; rw [p1]
      have eH : sumH ds ss src co hy k d lo hi = hi + crHi ds ss src co hy (layK k d) := by unfold sumH; rw [p2]
      have h0 : stE ds ss src co hy k d lo hi = 0 := by unfold stE; rw [if_pos hi_, if_pos p3, eL, eH, s3]
      have g := st_good hi_ h0
      rw [eL, eH, s1, s2, p1, p2, hf] at g
      rw [e1, e2]
      simp only [hi_, hf, if_true] at g ⊢
      exact g
    · have hf : canB ss src co hy (farK (layK k d) d) = false := by simpa using hf
      obtain ⟨p1, p2, p3⟩ := pas_turn (ds := ds) hf
      have e1 : kdLo ds ss src co hy (k, d) = tnLo ds ss src co hy (nearK (layK k d) d) (farK (layK k d) d) := by unfold kdLo; simp only [hi_, hf, if_true, Bool.false_eq_true, if_false]
      have e2 : kdHi ds ss src co hy (k, d) = tnHi ds ss src co hy (nearK (layK k d) d) (farK (layK k d) d) := by unfold kdHi; simp only [hi_, hf, if_true, Bool.false_eq_true, if_false]
      rw [e1, e2] at c
      rw [e2] at b2
      obtain ⟨q1, q2, q3⟩ := lim_in (c := 3) c.1 c.2.1 (by omega)
      rw [q1] at p1; rw [q2] at p2; rw [q3] at p3
      obtain ⟨s1, s2, s3⟩ := lim_in (c := 3) (lo := lo + tnLo ds ss src co hy (nearK (layK k d) d) (farK (layK k d) d)) (hi := hi + tnHi ds ss src co hy (nearK (layK k d) d) (farK (layK k d) d)) (by omega) (by omega) b2
      have eL : sumL ds ss src co hy k d lo hi = lo + tnLo ds ss src co hy (nearK (layK k d) d) (farK (layK k d) d) := by unfold sumL; rw [p1]
      have eH : sumH ds ss src co hy k d lo hi = hi + tnHi ds ss src co hy (nearK (layK k d) d) (farK (layK k d) d) := by unfold sumH; rw [p2]
      have h0 : stE ds ss src co hy k d lo hi = 0 := by unfold stE; rw [if_pos hi_, if_pos p3, eL, eH, s3]
      have g := st_good hi_ h0
      rw [eL, eH, s1, s2, p1, p2, hf] at g
      rw [e1, e2]
      simp only [hi_, hf, if_true, Bool.false_eq_true, if_false] at g ⊢
      exact g
  · have hi_ : inn ds k d = false := by simpa using hi_
    have g := st_out (ss := ss) (src := src) (co := co) (hy := hy) (lo := lo) (hi := hi) hi_
    have e1 : kdLo ds ss src co hy (k, d) = 0 := by unfold kdLo; simp [hi_]
    have e2 : kdHi ds ss src co hy (k, d) = 0 := by unfold kdHi; simp [hi_]
    rw [e1, e2]
    unfold kdEv kdNext
    simp only [hi_, Bool.false_eq_true, if_false, Int.add_zero]
    exact g
/-- the state behind n events -/
def rwAt (ds ss : List Int) (src co si hy : Int) (n : Nat) : Rs :=
  ⟨(kdAt ds ss src co si hy n).1, (kdAt ds ss src co si hy n).2, sumN (fun i => kdLo ds ss src co hy (kdAt ds ss src co si hy i)) n, sumN (fun i => kdHi ds ss src co hy (kdAt ds ss src co si hy i)) n⟩
theorem rw_step {ds ss : List Int} {src co si hy : Int} (r : RayOk ds ss src co si hy) {n : Nat} (hn : n < 100) :
    StIs ds ss src co hy (rwAt ds ss src co si hy n).k (rwAt ds ss src co si hy n).d (rwAt ds ss src co si hy n).lo (rwAt ds ss src co si hy n).hi 0 (kdEv ds ss src co hy (kdAt ds ss src co si hy n)) (rwAt ds ss src co si hy (n + 1)).k (rwAt ds ss src co si hy (n + 1)).d (rwAt ds ss src co si hy (n + 1)).lo (rwAt ds ss src co si hy (n + 1)).hi (kdLo ds ss src co hy (kdAt ds ss src co si hy n)) (kdHi ds ss src co hy (kdAt ds ss src co si hy n)) := by
  have a := raw_lim r (show n + 1 ≤ 100 by omega)
  rw [sumN] at a
  have b0 : 0 ≤ sumN (fun i => kdLo ds ss src co hy (kdAt ds ss src co si hy i)) n := sumN_nn n fun i _ => (kd_cost r (kd_ok r i)).1
  have b1 : sumN (fun i => kdLo ds ss src co hy (kdAt ds ss src co si hy i)) n ≤ sumN (fun i => kdHi ds ss src co hy (kdAt ds ss src co si hy i)) n := sumN_le n fun i _ => (kd_cost r (kd_ok r i)).2.1
  have := step_raw (k := (kdAt ds ss src co si hy n).1) (d := (kdAt ds ss src co si hy n).2) r (kd_ok r n) b0 b1 (by simp only [Prod.eta]; omega)
  simp only [Prod.eta] at this
  exact this
theorem no_limit {ds ss : List Int} {src co si hy : Int} (r : RayOk ds ss src co si hy) : ∀ n, n ≤ 100 → rsC ds ss src co hy (rs0 src si) n = 0 ∧ rsAt ds ss src co hy (rs0 src si) n = rwAt ds ss src co si hy n := by
  intro n
  induction n with
  | zero => intro _; exact ⟨rfl, rfl⟩
  | succ n ih =>
    intro hn
    obtain ⟨i1, i2⟩ := ih (by omega)
    have s := rw_step r (show n < 100 by omega)
    refine ⟨?_, ?_⟩
    · rw [rsC, if_pos i1, i2]; exact s.e
    · rw [rsAt, i2]
      unfold rsNext
      rw [s.k', s.d', s.l', s.h']
theorem no_step {ds ss : List Int} {src co si hy : Int} (r : RayOk ds ss src co si hy) {n : Nat} (hn : n < 100) :
    rsEv ds ss src co hy (rsAt ds ss src co hy (rs0 src si) n) = kdEv ds ss src co hy (kdAt ds ss src co si hy n) ∧ addOf ds ss src co hy (rsAt ds ss src co hy (rs0 src si) n) = (kdLo ds ss src co hy (kdAt ds ss src co si hy n), kdHi ds ss src co hy (kdAt ds ss src co si hy n)) := by
  have s := rw_step r hn
  rw [(no_limit r n (by omega)).2]
  exact ⟨s.v, by unfold addOf; rw [s.bl, s.bh]⟩
end

section
set_option linter.unusedSimpArgs false
set_option linter.unusedVariables false

/-- whether two rays have the same first n events -/
def sameN (ds ss : List Int) (src co si hy co' si' hy' : Int) : Nat → Bool
  | 0 => true
  | n + 1 => sameN ds ss src co si hy co' si' hy' n && decide (kdEv ds ss src co hy (kdAt ds ss src co si hy n) = kdEv ds ss src co' hy' (kdAt ds ss src co' si' hy' n))
def clLo (ds ss : List Int) (src co si hy co' si' hy' : Int) (n : Nat) : Int := sumN (fun i => min (kdLo ds ss src co hy (kdAt ds ss src co si hy i)) (kdLo ds ss src co' hy' (kdAt ds ss src co' si' hy' i))) n
def clHi (ds ss : List Int) (src co si hy co' si' hy' : Int) (n : Nat) : Int := sumN (fun i => max (kdHi ds ss src co hy (kdAt ds ss src co si hy i)) (kdHi ds ss src co' hy' (kdAt ds ss src co' si' hy' i))) n
theorem cl_bd {ds ss : List Int} {src co si hy co' si' hy' : Int} (r : RayOk ds ss src co si hy) (r' : RayOk ds ss src co' si' hy') (hs : decide (0 < si) = decide (0 < si')) {n : Nat} (hn : n ≤ 100) :
    0 ≤ clLo ds ss src co si hy co' si' hy' n ∧ clLo ds ss src co si hy co' si' hy' n ≤ clHi ds ss src co si hy co' si' hy' n ∧ clHi ds ss src co si hy co' si' hy' n ≤ 999000000000 := by
  refine ⟨sumN_nn n fun i _ => ?_, sumN_le n fun i _ => ?_, raw_max r r' hs hn⟩
  · have a := kd_cost r (kd_ok r i); have b := kd_cost r' (kd_ok r' i); omega
  · have a := kd_cost r (kd_ok r i); have b := kd_cost r' (kd_ok r' i); omega
theorem rw_bd {ds ss : List Int} {src co si hy : Int} (r : RayOk ds ss src co si hy) {n : Nat} (hn : n ≤ 100) :
    0 ≤ (rwAt ds ss src co si hy n).lo ∧ (rwAt ds ss src co si hy n).lo ≤ (rwAt ds ss src co si hy n).hi ∧ (rwAt ds ss src co si hy n).hi ≤ 999000000000 :=
  ⟨sumN_nn n fun i _ => (kd_cost r (kd_ok r i)).1, sumN_le n fun i _ => (kd_cost r (kd_ok r i)).2.1, raw_lim r hn⟩
theorem trE_kd {ds ss : List Int} {src co si hy : Int} (r : RayOk ds ss src co si hy) : ∀ n, n ≤ 100 → trE ds ss src co hy (rs0 src si) n = (List.range n).map (fun i => kdEv ds ss src co hy (kdAt ds ss src co si hy i)) := by
  intro n
  induction n with
  | zero => intro _; rfl
  | succ n ih =>
    intro h
    rw [trE, ih (by omega), (no_step r (show n < 100 by omega)).1, List.range_succ, List.map_append]
    rfl
theorem same_eq {ds ss : List Int} {src co si hy co' si' hy' : Int} (r : RayOk ds ss src co si hy) (r' : RayOk ds ss src co' si' hy') : ∀ n, n ≤ 100 →
    decide (trE ds ss src co hy (rs0 src si) n = trE ds ss src co' hy' (rs0 src si') n) = sameN ds ss src co si hy co' si' hy' n := by
  intro n
  induction n with
  | zero => intro _; simp [trE, sameN]
  | succ n ih =>
    intro h
    rw [sameN, ← ih (by omega), trE, trE, (no_step r (show n < 100 by omega)).1, (no_step r' (show n < 100 by omega)).1]
    have l1 := trE_len ds ss src co hy (rs0 src si) n
    have l2 := trE_len ds ss src co' hy' (rs0 src si') n
    rw [← Bool.decide_and]
    apply decide_eq_decide.2
    constructor
    · intro e
      have := List.append_inj e (by rw [l1, l2])
      exact ⟨this.1, by simpa using this.2⟩
    · rintro ⟨a, b⟩; rw [a, b]
/-- one round of following both rays -/
structure RoundIs (ds ss : List Int) (src co si hy co' si' hy' : Int) (n : Nat) (xk : Int) (xd : Bool) (xl xh yk : Int) (yd : Bool) (yl yh sl sh : Int) (v : Int) (xk' : Int) (xd' : Bool) (xl' xh' bl bh v' yk' : Int) (yd' : Bool) (yl' yh' cl ch sl' sh' : Int) : Prop where
  sx : StIs ds ss src co hy xk xd xl xh 0 v xk' xd' xl' xh' bl bh
  sy : StIs ds ss src co' hy' yk yd yl yh 0 v' yk' yd' yl' yh' cl ch
  ex : rwAt ds ss src co si hy (n + 1) = ⟨xk', xd', xl', xh'⟩
  ey : rwAt ds ss src co' si' hy' (n + 1) = ⟨yk', yd', yl', yh'⟩
  a1 : xl' - xl = bl
  a2 : xh' - xh = bh
  a3 : yl' - yl = cl
  a4 : yh' - yh = ch
  b1 : sl + min bl cl = sl'
  b2 : sh + max bh ch = sh'
  es : sameN ds ss src co si hy co' si' hy' (n + 1) = (sameN ds ss src co si hy co' si' hy' n && decide (v = v'))
  el : clLo ds ss src co si hy co' si' hy' (n + 1) = sl'
  eh : clHi ds ss src co si hy co' si' hy' (n + 1) = sh'
  k1 : 0 ≤ xl ∧ xl ≤ xh ∧ xh ≤ 999000000000
  k2 : 0 ≤ yl ∧ yl ≤ yh ∧ yh ≤ 999000000000
  k3 : 0 ≤ xl' ∧ xl' ≤ xh' ∧ xh' ≤ 999000000000
  k4 : 0 ≤ yl' ∧ yl' ≤ yh' ∧ yh' ≤ 999000000000
  k5 : 0 ≤ sl ∧ sl ≤ sh ∧ sh ≤ 999000000000
  k6 : 0 ≤ sl' ∧ sl' ≤ sh' ∧ sh' ≤ 999000000000
  k7 : 0 ≤ bl ∧ bl ≤ bh ∧ 0 ≤ cl ∧ cl ≤ ch
  kx : 0 ≤ xk ∧ xk < ss.length ∧ canB ss src co hy xk = true
  ky : 0 ≤ yk ∧ yk < ss.length ∧ canB ss src co' hy' yk = true
theorem round_is {ds ss : List Int} {src co si hy co' si' hy' : Int} (r : RayOk ds ss src co si hy) (r' : RayOk ds ss src co' si' hy') (hs : decide (0 < si) = decide (0 < si')) {n : Nat} (hn : n < 100) {xk : Int} {xd : Bool} {xl xh yk : Int} {yd : Bool} {yl yh sl sh : Int}
    (hx : rwAt ds ss src co si hy n = ⟨xk, xd, xl, xh⟩) (hy_ : rwAt ds ss src co' si' hy' n = ⟨yk, yd, yl, yh⟩) (hl : clLo ds ss src co si hy co' si' hy' n = sl) (hh : clHi ds ss src co si hy co' si' hy' n = sh) :
    ∃ (v xk' : Int) (xd' : Bool) (xl' xh' bl bh v' yk' : Int) (yd' : Bool) (yl' yh' cl ch sl' sh' : Int), RoundIs ds ss src co si hy co' si' hy' n xk xd xl xh yk yd yl yh sl sh v xk' xd' xl' xh' bl bh v' yk' yd' yl' yh' cl ch sl' sh' := by
  have sx := rw_step r hn
  have sy := rw_step r' hn
  have b1 := rw_bd r (show n ≤ 100 by omega); have b2 := rw_bd r' (show n ≤ 100 by omega)
  have b3 := rw_bd r (show n + 1 ≤ 100 by omega); have b4 := rw_bd r' (show n + 1 ≤ 100 by omega)
  have b5 := cl_bd r r' hs (show n ≤ 100 by omega); have b6 := cl_bd r r' hs (show n + 1 ≤ 100 by omega)
  have c1 := kd_cost r (kd_ok r n); have c2 := kd_cost r' (kd_ok r' n)
  have ox := kd_ok r n; have oy := kd_ok r' n
  have e1 : (rwAt ds ss src co si hy (n + 1)).lo = (rwAt ds ss src co si hy n).lo + kdLo ds ss src co hy (kdAt ds ss src co si hy n) := rfl
  have e2 : (rwAt ds ss src co si hy (n + 1)).hi = (rwAt ds ss src co si hy n).hi + kdHi ds ss src co hy (kdAt ds ss src co si hy n) := rfl
  have e3 : (rwAt ds ss src co' si' hy' (n + 1)).lo = (rwAt ds ss src co' si' hy' n).lo + kdLo ds ss src co' hy' (kdAt ds ss src co' si' hy' n) := rfl
  have e4 : (rwAt ds ss src co' si' hy' (n + 1)).hi = (rwAt ds ss src co' si' hy' n).hi + kdHi ds ss src co' hy' (kdAt ds ss src co' si' hy' n) := rfl
  have ox : KdOk ss src co hy ((rwAt ds ss src co si hy n).k, (rwAt ds ss src co si hy n).d) := ox
  have oy : KdOk ss src co' hy' ((rwAt ds ss src co' si' hy' n).k, (rwAt ds ss src co' si' hy' n).d) := oy
  refine ⟨_, _, _, _, _, _, _, _, _, _, _, _, _, _, _, _, ⟨?_, ?_, rfl, rfl, ?_, ?_, ?_, ?_, ?_, ?_, rfl, rfl, rfl, ?_, ?_, b3, b4, ?_, b6, ⟨c1.1, c1.2.1, c2.1, c2.2.1⟩, ?_, ?_⟩⟩
  · rw [hx] at sx; exact sx
  · rw [hy_] at sy; exact sy
  · show (rwAt ds ss src co si hy (n + 1)).lo - xl = _; rw [e1, hx]; dsimp only; omega
  · show (rwAt ds ss src co si hy (n + 1)).hi - xh = _; rw [e2, hx]; dsimp only; omega
  · show (rwAt ds ss src co' si' hy' (n + 1)).lo - yl = _; rw [e3, hy_]; dsimp only; omega
  · show (rwAt ds ss src co' si' hy' (n + 1)).hi - yh = _; rw [e4, hy_]; dsimp only; omega
  · rw [← hl]; rfl
  · rw [← hh]; rfl
  · rw [hx] at b1; exact b1
  · rw [hy_] at b2; exact b2
  · rw [hl, hh] at b5; exact b5
  · rw [hx] at ox; exact ⟨ox.k0, ox.k1, ox.hc⟩
  · rw [hy_] at oy; exact ⟨oy.k0, oy.k1, oy.hc⟩
/-- the code of a cell's arguments, but for its directions' senses -/
@[irreducible] def ceE (ds ss : List Int) (src co si hy co' si' hy' n : Int) : Int := if profB ds ss && dirB co si hy && dirB co' si' hy' then (if inB src 0 ((ds.length : Int) - 1) && inB n 0 100 then 0 else 2) else 1
def alB (si si' : Int) : Bool := decide (0 < si) == decide (0 < si')
theorem ce_zero {ds ss : List Int} {src co si hy co' si' hy' n : Int} (h : ceE ds ss src co si hy co' si' hy' n = 0) : RayOk ds ss src co si hy ∧ RayOk ds ss src co' si' hy' ∧ ∃ m : Nat, n = m ∧ m ≤ 100 := by
  unfold ceE at h
  cases h1 : profB ds ss <;> cases h2 : dirB co si hy <;> cases h3 : dirB co' si' hy' <;> cases h4 : inB src 0 ((ds.length : Int) - 1) <;> cases h5 : inB n 0 100 <;> simp [h1, h2, h3, h4, h5] at h
  have a := inB_bd h4
  have b := inB_bd h5
  exact ⟨rayOk_of h1 h2 a.1 a.2, rayOk_of h1 h3 a.1 a.2, n.toNat, by omega, by omega⟩
theorem al_eq {si si' : Int} (h : alB si si' = true) : decide (0 < si) = decide (0 < si') := by unfold alB at h; exact eq_of_beq h
/-- the range of a cell, with its code -/
@[irreducible] def crE (ds ss : List Int) (src co si hy co' si' hy' n : Int) : Int := if ceE ds ss src co si hy co' si' hy' n = 0 then (if alB si si' then (if sameN ds ss src co si hy co' si' hy' n.toNat then 0 else 5) else 5) else ceE ds ss src co si hy co' si' hy' n
@[irreducible] def crL (ds ss : List Int) (src co si hy co' si' hy' n : Int) : Int := if crE ds ss src co si hy co' si' hy' n = 0 then clLo ds ss src co si hy co' si' hy' n.toNat else 0
@[irreducible] def crH (ds ss : List Int) (src co si hy co' si' hy' n : Int) : Int := if crE ds ss src co si hy co' si' hy' n = 0 then clHi ds ss src co si hy co' si' hy' n.toNat else 0
end
end Go.Proofs.YtopggkomkfjbfaaGreat
