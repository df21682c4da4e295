/- The states that a ray passes: what holds of each of them; plain. -/
import Derived.Test.YtopggkomkfjbfaaGreatStep
namespace Go.Proofs.YtopggkomkfjbfaaGreat
set_option linter.unusedSimpArgs false
set_option linter.unusedVariables false
open Go.RowKit

/-- a state -/
structure Rs where
  k : Int
  d : Bool
  lo : Int
  hi : Int
/-- a state that a step can start from -/
structure RsOk (ss : List Int) (src co hy : Int) (x : Rs) : Prop where
  k0 : 0 ≤ x.k
  k1 : x.k < ss.length
  hc : canB ss src co hy x.k = true
  b0 : -1000000000000 ≤ x.lo
  b1 : x.lo ≤ 1000000000000
  b2 : -1000000000000 ≤ x.hi
  b3 : x.hi ≤ 1000000000000
def rsE (ds ss : List Int) (src co hy : Int) (x : Rs) : Int := stE ds ss src co hy x.k x.d x.lo x.hi
def rsEv (ds ss : List Int) (src co hy : Int) (x : Rs) : Int := stV ds ss src co hy x.k x.d x.lo x.hi
def rsNext (ds ss : List Int) (src co hy : Int) (x : Rs) : Rs := ⟨stK ds ss src co hy x.k x.d x.lo x.hi, stD ds ss src co hy x.k x.d x.lo x.hi, stL ds ss src co hy x.k x.d x.lo x.hi, stH ds ss src co hy x.k x.d x.lo x.hi⟩
/-- the state behind n events, as long as no event fails -/
def rsAt (ds ss : List Int) (src co hy : Int) (x : Rs) : Nat → Rs
  | 0 => x
  | n + 1 => rsNext ds ss src co hy (rsAt ds ss src co hy x n)
/-- the code of the first n events: 0, or that of the first one that fails -/
def rsC (ds ss : List Int) (src co hy : Int) (x : Rs) : Nat → Int
  | 0 => 0
  | n + 1 => if rsC ds ss src co hy x n = 0 then rsE ds ss src co hy (rsAt ds ss src co hy x n) else rsC ds ss src co hy x n

theorem rs_next {ds ss : List Int} {src co si hy : Int} {x : Rs} (r : RayOk ds ss src co si hy) (h : RsOk ss src co hy x) (he : rsE ds ss src co hy x = 0) : RsOk ss src co hy (rsNext ds ss src co hy x) := by
  obtain ⟨k, d, lo, hi⟩ := x
  obtain ⟨k0, k1, hc, b0, b1, b2, b3⟩ := h
  simp only at k0 k1 hc b0 b1 b2 b3
  rcases Bool.eq_false_or_eq_true (inn ds k d) with hi_ | hi_
  · have s := st_good (lo := lo) (hi := hi) hi_ he
    obtain ⟨l0, l1⟩ := lay_bd r k0 k1 hi_
    obtain ⟨f0, f1⟩ := far_bd d l0 l1
    obtain ⟨c0, c1, c2, c3⟩ := lim_bd (sumL ds ss src co hy k d lo hi) (sumH ds ss src co hy k d lo hi)
    rcases Bool.eq_false_or_eq_true (canB ss src co hy (farK (layK k d) d)) with hf | hf
    · rw [hf] at s
      have e : stK ds ss src co hy k d lo hi = farK (layK k d) d := s.k'
      refine ⟨?_, ?_, ?_, ?_, ?_, ?_, ?_⟩ <;> simp only [rsNext]
      · rw [e]; exact f0
      · rw [e]; exact f1
      · rw [e]; exact hf
      · rw [s.l']; exact c0
      · rw [s.l']; exact c1
      · rw [s.h']; exact c2
      · rw [s.h']; exact c3
    · rw [hf] at s
      have e : stK ds ss src co hy k d lo hi = k := s.k'
      refine ⟨?_, ?_, ?_, ?_, ?_, ?_, ?_⟩ <;> simp only [rsNext]
      · rw [e]; exact k0
      · rw [e]; exact k1
      · rw [e]; exact hc
      · rw [s.l']; exact c0
      · rw [s.l']; exact c1
      · rw [s.h']; exact c2
      · rw [s.h']; exact c3
  · have s := st_out (ss := ss) (src := src) (co := co) (hy := hy) (lo := lo) (hi := hi) hi_
    refine ⟨?_, ?_, ?_, ?_, ?_, ?_, ?_⟩ <;> simp only [rsNext]
    · rw [s.k']; exact k0
    · rw [s.k']; exact k1
    · rw [s.k']; exact hc
    · rw [s.l']; exact b0
    · rw [s.l']; exact b1
    · rw [s.h']; exact b2
    · rw [s.h']; exact b3
theorem rs_at {ds ss : List Int} {src co si hy : Int} {x : Rs} (r : RayOk ds ss src co si hy) (h : RsOk ss src co hy x) : ∀ n, rsC ds ss src co hy x n = 0 → RsOk ss src co hy (rsAt ds ss src co hy x n) := by
  intro n
  induction n with
  | zero => intro _; exact h
  | succ n ih =>
    intro hc
    rw [rsC] at hc
    by_cases h0 : rsC ds ss src co hy x n = 0
    · rw [if_pos h0] at hc
      exact rs_next r (ih h0) hc
    · rw [if_neg h0] at hc; exact absurd hc h0
/-- the first state -/
theorem rs_first {ds ss : List Int} {src co si hy : Int} (r : RayOk ds ss src co si hy) : RsOk ss src co hy ⟨src, decide (0 < si), 0, 0⟩ := by
  have h1 := r.sp src r.s0 r.s1
  have h2 : 0 < spd ss src := by omega
  refine ⟨r.s0, r.s1, ?_, (show (-1000000000000 : Int) ≤ 0 by omega), (show (0 : Int) ≤ 1000000000000 by omega), (show (-1000000000000 : Int) ≤ 0 by omega), (show (0 : Int) ≤ 1000000000000 by omega)⟩
  exact decide_eq_true (Int.mul_lt_mul_of_pos_right r.c1 h2)
end Go.Proofs.YtopggkomkfjbfaaGreat
