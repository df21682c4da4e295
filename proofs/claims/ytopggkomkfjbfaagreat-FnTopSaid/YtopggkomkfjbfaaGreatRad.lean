/- The radius of the circle in a layer, by the program and by the reference. -/
import Derived.Test.YtopggkomkfjbfaaGreatArc2
import Derived.Test.YtopggkomkfjbfaaGreatSpeedAt
namespace Go.Proofs.YtopggkomkfjbfaaGreat
set_option linter.unusedSimpArgs false
set_option linter.unusedVariables false
open Go.RowKit

/-- radius times the product of Cos and the difference of the speeds; that product -/
def radN (ds ss : List Int) (src hy l : Int) : Int := hy * spd ss src * (spd ds (l + 1) - spd ds l)
def radW (ss : List Int) (co l : Int) : Int := co * ((spd ss (l + 1) - spd ss l).natAbs : Int)
@[irreducible] def arC (ds ss : List Int) (src co si hy l : Int) : Int := if arcE ds ss src co si hy l = 0 then (if spd ss l = spd ss (l + 1) then 5 else limC (radN ds ss src hy l / radW ss co l) (-(-radN ds ss src hy l / radW ss co l)) 3) else arcE ds ss src co si hy l
@[irreducible] def arLo (ds ss : List Int) (src co si hy l : Int) : Int := if arcE ds ss src co si hy l = 0 then (if spd ss l = spd ss (l + 1) then 0 else limLo (radN ds ss src hy l / radW ss co l) (-(-radN ds ss src hy l / radW ss co l))) else 0
@[irreducible] def arHi (ds ss : List Int) (src co si hy l : Int) : Int := if arcE ds ss src co si hy l = 0 then (if spd ss l = spd ss (l + 1) then 0 else limHi (radN ds ss src hy l / radW ss co l) (-(-radN ds ss src hy l / radW ss co l))) else 0
theorem ar_bad {ds ss : List Int} {src co si hy l : Int} (h0 : arcE ds ss src co si hy l ≠ 0) : arC ds ss src co si hy l = arcE ds ss src co si hy l ∧ arLo ds ss src co si hy l = 0 ∧ arHi ds ss src co si hy l = 0 := by
  unfold arC arLo arHi; rw [if_neg h0, if_neg h0, if_neg h0]; exact ⟨rfl, rfl, rfl⟩
theorem ar_flat {ds ss : List Int} {src co si hy l : Int} (h0 : arcE ds ss src co si hy l = 0) (h1 : spd ss l = spd ss (l + 1)) : arC ds ss src co si hy l = 5 ∧ arLo ds ss src co si hy l = 0 ∧ arHi ds ss src co si hy l = 0 := by
  unfold arC arLo arHi; rw [if_pos h0, if_pos h0, if_pos h0, if_pos h1, if_pos h1, if_pos h1]; exact ⟨rfl, rfl, rfl⟩

/-- what a layer's numbers are -/
structure LayOk (ds ss : List Int) (src co hy l : Int) (P T R W : Int) : Prop where
  p0 : 1300000 ≤ P
  p1 : P ≤ 1700000000
  t0 : 1 ≤ T
  t1 : T ≤ 1000000
  n0 : 0 ≤ P * T
  n1 : P * T ≤ 1700000000000000
  w0 : 0 ≤ W
  w1 : W ≤ 400000000
  r0 : -400000000 ≤ R
  r1 : R ≤ 400000000
  eP : hy * spd ss src = P
  eT : spd ds (l + 1) - spd ds l = T
  eR : co * spd ss (l + 1) - co * spd ss l = R
  eW : radW ss co l = W
  aT : ((spd ds (l + 1) - spd ds l).natAbs : Int) = T
  aW : (R.natAbs : Int) = W
theorem layOk {ds ss : List Int} {src co si hy l : Int} (r : RayOk ds ss src co si hy) (l0 : 0 ≤ l) (l1 : l + 1 < ss.length) :
    LayOk ds ss src co hy l (hy * spd ss src) (spd ds (l + 1) - spd ds l) (co * spd ss (l + 1) - co * spd ss l) (radW ss co l) := by
  have a := r.whole
  have d1 := r.dp l l0 (by omega)
  have d2 := r.dp (l + 1) (by omega) l1
  have u := r.up l l0 l1
  have s1 := r.sp l l0 (by omega)
  have s2 := r.sp (l + 1) (by omega) l1
  have c0 := r.c0; have c1 := r.c1; have h1 := r.h1
  obtain ⟨m1, m2⟩ := mul_bd (a := hy * spd ss src) (b := spd ds (l + 1) - spd ds l) (A := 1700000000) (B := 1000000) (by omega) (by omega) (by omega) (by omega)
  obtain ⟨k1, k2⟩ := mul_bd (a := spd ss (l + 1) - spd ss l) (b := co) (A := 400000) (B := 1000) (by omega) (by omega) (by omega) (by omega)
  have e : co * spd ss (l + 1) - co * spd ss l = (spd ss (l + 1) - spd ss l) * co := by rw [Int.sub_mul, Int.mul_comm co, Int.mul_comm co]
  have n0 := Int.mul_nonneg (show 0 ≤ hy * spd ss src by omega) (show 0 ≤ spd ds (l + 1) - spd ds l by omega)
  have aw : ((co * spd ss (l + 1) - co * spd ss l).natAbs : Int) = radW ss co l := by
    unfold radW
    rw [e, Int.natAbs_mul, Nat.mul_comm, Int.natCast_mul, Int.natAbs_of_nonneg (show 0 ≤ co by omega)]
  have ew0 : 0 ≤ radW ss co l := by rw [← aw]; omega
  exact ⟨a.1, a.2, by omega, by omega, n0, by omega, ew0, by omega, by omega, by omega, rfl, rfl, rfl, rfl, by omega, aw⟩
theorem layFlat {ds ss : List Int} {src co si hy l P T R W : Int} (r : RayOk ds ss src co si hy) (h : LayOk ds ss src co hy l P T R W) : (R = 0 ↔ spd ss l = spd ss (l + 1)) := by
  have c0 := r.c0
  have e := h.eR
  rw [← Int.mul_sub] at e
  constructor
  · intro g
    rw [g] at e
    rcases Int.mul_eq_zero.1 e with g1 | g1 <;> omega
  · intro g; rw [← e, g]; simp

end Go.Proofs.YtopggkomkfjbfaaGreat
