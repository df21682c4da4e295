/- Whether a ray can cross a knot, by the program and by the reference. -/
import Derived.Test.YtopggkomkfjbfaaGreatRay2
namespace Go.Proofs.YtopggkomkfjbfaaGreat
set_option linter.unusedSimpArgs false
set_option linter.unusedVariables false
open Go.RowKit

/-- the reference's square -/
def sqI (ss : List Int) (src co hy k : Int) : Int := (hy * spd ss src - co * spd ss k) * (hy * spd ss src + co * spd ss k)
theorem sq_pos {a b : Int} (hs : 0 < a + b) : 0 < (a - b) * (a + b) ↔ b < a := by
  constructor
  · intro h
    rcases Int.lt_or_le b a with g | g
    · exact g
    · have := Int.mul_le_mul_of_nonneg_right (show a - b ≤ 0 by omega) (show 0 ≤ a + b by omega)
      omega
  · intro h; exact Int.mul_pos (by omega) hs
def canB (ss : List Int) (src co hy k : Int) : Bool := decide (co * spd ss k < hy * spd ss src)
def crossI (ds ss : List Int) (src co si hy k : Int) : Bool := decide (rayE ds ss src co si hy k = 0) && canB ss src co hy k


theorem sqI_bd {a b : Int} (a0 : 0 ≤ a) (a1 : a ≤ 1700000000) (b0 : 0 ≤ b) (b1 : b ≤ 1700000000) : -4000000000000000000 ≤ (a - b) * (a + b) ∧ (a - b) * (a + b) ≤ 4000000000000000000 := by
  have e : (a - b) * (a + b) = a * a - b * b := by rw [Int.sub_mul, Int.mul_add, Int.mul_add, Int.mul_comm b a]; omega
  have h1 := sq_mono a0 a1
  have h2 := sq_mono b0 b1
  have h3 := Int.mul_nonneg a0 a0
  have h4 := Int.mul_nonneg b0 b0
  omega

set_option maxHeartbeats 1000000 in
theorem l05Square_any (A1 A2 : Option Addr) (c1 c2 : Nat) (ds ss : List Int) (src co si hy k : Int) (w : World) (h : ProfAt w A1 c1 A2 c2 ds ss) (r : RayOk ds ss src co si hy) (k0 : 0 ≤ k) (k1 : k < ss.length) :
    Calls Tryz.prog 100 #[profV A1 ds.length c1 A2 ss.length c2, .int .i64 src, dirV co si hy, .int .i64 k] w fun e w' => e = .returned (.int .i64 (sqI ss src co hy k)) ∧ Below w.heap.size w w' := by
  have s0 := r.s0; have s1 := r.s1
  obtain ⟨a0, a1⟩ := r.whole
  obtain ⟨b0, b1⟩ := r.part k0 k1
  obtain ⟨m, rfl⟩ := Int.eq_ofNat_of_zero_le s0
  obtain ⟨n, rfl⟩ := Int.eq_ofNat_of_zero_le k0
  obtain ⟨b, o, rfl, hb, q⟩ := h.2.spd (by omega)
  have qm := q m (by omega); have qn := q n (by omega)
  clear q h r
  have he : sqI ss m co hy n = (hy * spd ss m - co * spd ss n) * (hy * spd ss m + co * spd ss n) := rfl
  obtain ⟨d0, d1⟩ := sqI_bd (a := hy * spd ss m) (b := co * spd ss n) (by omega) a1 (by omega) b1
  have HE := Lib.hid he; clear he
  go_enter Tryz.func100, Tryz.ntmps100
  go_wp2_with fail
  refine genS (S := fun w' => Below w.heap.size w w' ∧ w'.cell? ⟨w.heap.size, 1, none⟩ = some (.slice (some ⟨b, o, none⟩) ss.length c2) ∧ w'.cell? ⟨w.heap.size + 1, 0, none⟩ = some (.int .i64 co) ∧ w'.cell? ⟨w.heap.size + 1, 2, none⟩ = some (.int .i64 hy)) ⟨by go_grown, by simp [*, go_sem], by simp [*, go_sem], by simp [*, go_sem]⟩ ?_
  rintro w0 ⟨B0, r0, r1, r2⟩
  have tm := (B0.cell (p := ⟨b, o + m, none⟩) hb).trans qm
  have tn := (B0.cell (p := ⟨b, o + n, none⟩) hb).trans qn
  have W1 : IntKind.i64.wrap (hy * spd ss m) = hy * spd ss m := IntWalk.i64_in _ (by omega)
  have W2 : IntKind.i64.wrap (co * spd ss n) = co * spd ss n := IntWalk.i64_in _ (by omega)
  go_quiet (fail)
  clear W1 W2
  go_wp2
  go_ret
  exact ⟨ret_int (by rw [HE.out]), bdrewN B0 _⟩

theorem sqI_pos {ds ss : List Int} {src co si hy k : Int} (r : RayOk ds ss src co si hy) (k0 : 0 ≤ k) (k1 : k < ss.length) : decide (0 < sqI ss src co hy k) = canB ss src co hy k := by
  have a := r.whole; have b := r.part k0 k1
  unfold canB sqI
  exact decide_eq_decide.2 (sq_pos (by omega))
end Go.Proofs.YtopggkomkfjbfaaGreat
