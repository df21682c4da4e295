/- Quotients rounded down and up: plain. -/
import Derived.Test.YtmgmhaikehjddaaSpd
import Derived.Test.YtmgmhaikehjddaaArc2
namespace Go.Proofs.Ytmgmhaikehjddaa
set_option linter.unusedSimpArgs false
set_option linter.unusedVariables false

theorem cg_gap {n d : Int} (hd : 0 < d) : n / d ≤ -(-n / d) ∧ -(-n / d) ≤ n / d + 1 := by
  have h1 := Int.mul_ediv_add_emod n d
  have h2 := Int.emod_nonneg n (show d ≠ 0 by omega)
  have h3 := Int.emod_lt_of_pos n hd
  obtain ⟨q, hq⟩ : ∃ q, n / d = q := ⟨_, rfl⟩
  obtain ⟨r, hr⟩ : ∃ r, n % d = r := ⟨_, rfl⟩
  rw [hq] at h1 ⊢
  rw [hr] at h1 h2 h3
  constructor
  · have : -n / d ≤ -q := by
      have h4 : -n ≤ d * (-q) := by rw [Int.mul_neg]; omega
      have := Int.ediv_le_ediv hd h4
      rwa [Int.mul_ediv_cancel_left _ (by omega)] at this
    omega
  · have : -q - 1 ≤ -n / d := by
      have h4 : d * (-q - 1) ≤ -n := by rw [Int.mul_sub, Int.mul_neg]; omega
      have := Int.ediv_le_ediv hd h4
      rwa [Int.mul_ediv_cancel_left _ (by omega)] at this
    omega
theorem fl_mul {n d : Int} (hd : 0 < d) : n / d * d ≤ n ∧ n < n / d * d + d := by
  have h1 := Int.mul_ediv_add_emod n d
  have h2 := Int.emod_nonneg n (show d ≠ 0 by omega)
  have h3 := Int.emod_lt_of_pos n hd
  rw [Int.mul_comm]
  omega
theorem ce_mul {n d : Int} (hd : 0 < d) : n ≤ -(-n / d) * d ∧ -(-n / d) * d < n + d := by
  have h := fl_mul (n := -n) hd
  rw [Int.neg_mul]
  omega
theorem limz {a b c : Int} (hc : c ≠ 0) (h : limC a b c = 0) : limLo a b = a ∧ limHi a b = b ∧ -1000000000000 ≤ a ∧ a ≤ 1000000000000 ∧ -1000000000000 ≤ b ∧ b ≤ 1000000000000 := by
  unfold limC at h
  unfold limLo limHi
  cases hb : isB a b with
  | true =>
    simp only [isB, Bool.and_eq_true, isV] at hb
    have h1 := inB_bd hb.1
    have h2 := inB_bd hb.2
    exact ⟨rfl, rfl, h1.1, h1.2, h2.1, h2.2⟩
  | false => rw [hb] at h; simp at h; exact absurd h hc
theorem ediv_le_of {a b n : Int} (hb : 0 < b) (h : a ≤ n * b) : a / b ≤ n := by
  have := Int.ediv_le_ediv hb h
  rwa [Int.mul_ediv_cancel _ (by omega)] at this
theorem le_ceil_of {a b n : Int} (hb : 0 < b) (h : n * b ≤ a) : n ≤ -(-a / b) := by
  have h2 : -a ≤ -n * b := by rw [Int.neg_mul]; omega
  have := ediv_le_of hb h2
  omega
end Go.Proofs.Ytmgmhaikehjddaa
