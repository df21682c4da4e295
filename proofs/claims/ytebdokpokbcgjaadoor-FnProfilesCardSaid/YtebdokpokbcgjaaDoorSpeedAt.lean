/- The speed at a depth, by the program and by the reference. -/
import Derived.Test.YtebdokpokbcgjaaDoorSpeed
import Derived.IntWalk
namespace Go.Proofs.YtebdokpokbcgjaaDoor
set_option linter.unusedSimpArgs false
set_option linter.unusedVariables false
open Go.RowKit

theorem mul_bd {a b A B : Int} (h1 : -A ≤ a) (h2 : a ≤ A) (h3 : 0 ≤ b) (h4 : b ≤ B) : -(A * B) ≤ a * b ∧ a * b ≤ A * B := by
  have hA : 0 ≤ A := by omega
  have e1 := Int.mul_le_mul_of_nonneg_right h2 h3
  have e2 := Int.mul_le_mul_of_nonneg_left h4 hA
  have e3 := Int.mul_le_mul_of_nonneg_right h1 h3
  rw [Int.neg_mul] at e3
  omega
theorem div_bd {a b M : Int} (hb : 0 < b) (h1 : -M ≤ a) (h2 : a ≤ M) : -M ≤ a / b ∧ a / b ≤ M := by
  have hM : 0 ≤ M := by omega
  have h5 := Int.mul_le_mul_of_nonneg_right (show (1 : Int) ≤ b by omega) hM
  constructor
  · rw [Int.le_ediv_iff_mul_le hb, Int.neg_mul, Int.mul_comm]; omega
  · have : a / b < M + 1 := by rw [Int.ediv_lt_iff_lt_mul hb, Int.add_mul, Int.mul_comm M b]; omega
    omega

/-- what is added to the speed of the knot, times the thickness -/
def spN (ds ss : List Int) (z : Int) (k : Nat) : Int := (spd ss ((k : Int) + 1) - spd ss k) * (z - spd ds k)
def spD (ds : List Int) (k : Nat) : Int := spd ds ((k : Int) + 1) - spd ds k
def spLo (ds ss : List Int) (z : Int) : Int := if depE ds ss z = 0 then spd ss (lay ds z) + spN ds ss z (lay ds z) / spD ds (lay ds z) else 0
def spHi (ds ss : List Int) (z : Int) : Int := if depE ds ss z = 0 then spd ss (lay ds z) + -(-spN ds ss z (lay ds z) / spD ds (lay ds z)) else 0

structure SpOk (ds ss : List Int) (z : Int) (k : Nat) : Prop where
  d0 : 0 ≤ spd ds k
  d1 : spd ds k < spd ds ((k : Int) + 1)
  d2 : spd ds ((k : Int) + 1) ≤ 1000000
  s0 : 1300000 ≤ spd ss k
  s1 : spd ss k ≤ 1700000
  s2 : 1300000 ≤ spd ss ((k : Int) + 1)
  s3 : spd ss ((k : Int) + 1) ≤ 1700000
  z0 : spd ds k ≤ z
  z1 : z ≤ 1000000
  n0 : -400000000000 ≤ (spd ss ((k : Int) + 1) - spd ss k) * (z - spd ds k)
  n1 : (spd ss ((k : Int) + 1) - spd ss k) * (z - spd ds k) ≤ 400000000000
theorem spOk {ds ss : List Int} {z : Int} (h : depE ds ss z = 0) : SpOk ds ss z (lay ds z) := by
  obtain ⟨p, h0, h1⟩ := dep_ok h
  have hl := lay_is h
  have h2 := hl.low p h0
  have hk := hl.1
  have := p.l0; have := p.l2; have := p.l3
  have a1 := p.dp (lay ds z) (by omega) (by omega)
  have a2 := p.dp ((lay ds z : Int) + 1) (by omega) (by omega)
  have a3 := p.up (lay ds z) (by omega) (by omega)
  have a4 := p.sp (lay ds z) (by omega) (by omega)
  have a5 := p.sp ((lay ds z : Int) + 1) (by omega) (by omega)
  have a6 := p.dp ((ds.length : Int) - 1) (by omega) (by omega)
  obtain ⟨m1, m2⟩ := mul_bd (a := spd ss ((lay ds z : Int) + 1) - spd ss (lay ds z)) (b := z - spd ds (lay ds z)) (A := 400000) (B := 1000000) (by omega) (by omega) (by omega) (by omega)
  exact ⟨by omega, by omega, by omega, by omega, by omega, by omega, by omega, by omega, by omega, by omega, by omega⟩

end Go.Proofs.YtebdokpokbcgjaaDoor
