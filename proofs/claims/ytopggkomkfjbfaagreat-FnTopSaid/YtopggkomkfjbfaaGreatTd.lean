/- The depth at which a ray is horizontal in a layer, by the program. -/
import Derived.Test.YtopggkomkfjbfaaGreatRad
namespace Go.Proofs.YtopggkomkfjbfaaGreat
set_option linter.unusedSimpArgs false
set_option linter.unusedVariables false
open Go.RowKit

/-- the code of a layer with a verdict -/
@[irreducible] def vaE (v : Int) (ds ss : List Int) (src co si hy l : Int) (ab : Bool) : Int := if arcE ds ss src co si hy l = 0 then (if vdI ss src co hy (nearK l ab) (farK l ab) = v then 0 else 5) else arcE ds ss src co si hy l
theorem va_ok {v : Int} {ds ss : List Int} {src co si hy l : Int} {ab : Bool} (h : vaE v ds ss src co si hy l ab = 0) : arcE ds ss src co si hy l = 0 ∧ vdI ss src co hy (nearK l ab) (farK l ab) = v := by
  unfold vaE at h
  by_cases h0 : arcE ds ss src co si hy l = 0
  · rw [if_pos h0] at h
    by_cases h1 : vdI ss src co hy (nearK l ab) (farK l ab) = v
    · exact ⟨h0, h1⟩
    · rw [if_neg h1] at h; omega
  · rw [if_neg h0] at h; exact absurd h h0
theorem va_other {v : Int} {ds ss : List Int} {src co si hy l : Int} {ab : Bool} (h0 : arcE ds ss src co si hy l = 0) (h : vaE v ds ss src co si hy l ab ≠ 0) : vdI ss src co hy (nearK l ab) (farK l ab) ≠ v ∧ vaE v ds ss src co si hy l ab = 5 := by
  unfold vaE at h ⊢
  rw [if_pos h0] at h ⊢
  by_cases h1 : vdI ss src co hy (nearK l ab) (farK l ab) = v
  · rw [if_pos h1] at h; exact absurd rfl h
  · rw [if_neg h1]; exact ⟨h1, rfl⟩
theorem va_bad {v : Int} {ds ss : List Int} {src co si hy l : Int} {ab : Bool} (h0 : arcE ds ss src co si hy l ≠ 0) : vaE v ds ss src co si hy l ab = arcE ds ss src co si hy l := by
  unfold vaE; rw [if_neg h0]
theorem vd_two {ss : List Int} {src co hy n f : Int} (h : vdI ss src co hy n f = 2) : canB ss src co hy n = true ∧ canB ss src co hy f = false := by
  unfold vdI at h
  by_cases h1 : canB ss src co hy n = true
  · rw [if_pos h1] at h
    by_cases h2 : canB ss src co hy f = true
    · rw [if_pos h2] at h; omega
    · exact ⟨h1, by simpa using h2⟩
  · rw [if_neg h1] at h; omega

/-! the depth -/
def tdN (ds ss : List Int) (src co hy n f : Int) : Int := ((spd ds f - spd ds n).natAbs : Int) * (hy * spd ss src - co * spd ss n)
def tdR (ss : List Int) (co n f : Int) : Int := co * spd ss f - co * spd ss n
def tdLo (ds ss : List Int) (src co hy n f : Int) : Int := if n < f then spd ds n + tdN ds ss src co hy n f / tdR ss co n f else spd ds n - -(-tdN ds ss src co hy n f / tdR ss co n f)
def tdHi (ds ss : List Int) (src co hy n f : Int) : Int := if n < f then spd ds n + -(-tdN ds ss src co hy n f / tdR ss co n f) else spd ds n - tdN ds ss src co hy n f / tdR ss co n f

structure TdOk (ds ss : List Int) (src co hy n f : Int) (P Q R T : Int) : Prop where
  p0 : 1300000 ≤ P
  p1 : P ≤ 1700000000
  q0 : 1300000 ≤ Q
  q1 : Q ≤ 1700000000
  r0 : 0 < R
  r1 : R ≤ 1700000000
  v0 : 0 < P - Q
  t0 : 0 ≤ T
  t1 : T ≤ 1000000
  n0 : 0 ≤ T * (P - Q)
  n1 : T * (P - Q) ≤ 1700000000000000
  eP : hy * spd ss src = P
  eQ : co * spd ss n = Q
  eR : co * spd ss f - co * spd ss n = R
  eT : ((spd ds f - spd ds n).natAbs : Int) = T
theorem tdOk {ds ss : List Int} {src co si hy n f : Int} (r : RayOk ds ss src co si hy) (n0 : 0 ≤ n) (n1 : n < ss.length) (f0 : 0 ≤ f) (f1 : f < ss.length) (hn : canB ss src co hy n = true) (hf : canB ss src co hy f = false) :
    TdOk ds ss src co hy n f (hy * spd ss src) (co * spd ss n) (co * spd ss f - co * spd ss n) ((spd ds f - spd ds n).natAbs : Int) := by
  have a := r.whole; have b := r.part n0 n1; have c := r.part f0 f1
  have g1 : co * spd ss n < hy * spd ss src := of_decide_eq_true hn
  have g2 : ¬ co * spd ss f < hy * spd ss src := of_decide_eq_false hf
  have d1 := r.dp n n0 n1; have d2 := r.dp f f0 f1
  obtain ⟨m1, m2⟩ := mul_bd (a := hy * spd ss src - co * spd ss n) (b := ((spd ds f - spd ds n).natAbs : Int)) (A := 1700000000) (B := 1000000) (by omega) (by omega) (by omega) (by omega)
  have m3 := Int.mul_nonneg (show 0 ≤ ((spd ds f - spd ds n).natAbs : Int) by omega) (show 0 ≤ hy * spd ss src - co * spd ss n by omega)
  rw [Int.mul_comm] at m2
  exact ⟨a.1, a.2, b.1, b.2, by omega, by omega, by omega, by omega, by omega, m3, by omega, rfl, rfl, rfl, rfl⟩

@[irreducible] def tLo (ds ss : List Int) (src co si hy l : Int) (ab : Bool) : Int := if vaE 2 ds ss src co si hy l ab = 0 then tdLo ds ss src co hy (nearK l ab) (farK l ab) else 0
@[irreducible] def tHi (ds ss : List Int) (src co si hy l : Int) (ab : Bool) : Int := if vaE 2 ds ss src co si hy l ab = 0 then tdHi ds ss src co hy (nearK l ab) (farK l ab) else 0
end Go.Proofs.YtopggkomkfjbfaaGreat
