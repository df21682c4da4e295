/- Rays: their codes, the products at the knots, whether they can cross a knot. -/
import Derived.Test.YtbpekljemchmeaaDir
import Derived.Test.YtbpekljemchmeaaSpeed
import Derived.IntWalk
namespace Go.Proofs.Ytbpekljemchmeaa
set_option linter.unusedSimpArgs false
set_option linter.unusedVariables false
open Go.RowKit

/-- the code of a ray and a knot -/
@[irreducible] def rayE (ds ss : List Int) (src co si hy k : Int) : Int :=
  if profB ds ss && dirB co si hy then (if inB src 0 ((ds.length : Int) - 1) && inB k 0 ((ds.length : Int) - 1) then 0 else 2) else 1

structure RayOk (ds ss : List Int) (src co si hy : Int) : Prop where
  prof : profB ds ss = true
  dir : dirB co si hy = true
  l0 : 2 ≤ ds.length
  l1 : ds.length ≤ 12
  l2 : ss.length ≤ ds.length
  l3 : ds.length ≤ ss.length
  s0 : 0 ≤ src
  s1 : src < ss.length
  h0 : 1 ≤ hy
  h1 : hy ≤ 1000
  c0 : 1 ≤ co
  c1 : co < hy
  sp : ∀ k : Int, 0 ≤ k → k < ss.length → 1300000 ≤ spd ss k ∧ spd ss k ≤ 1700000
  dp : ∀ k : Int, 0 ≤ k → k < ss.length → 0 ≤ spd ds k ∧ spd ds k ≤ 1000000
  up : ∀ k : Int, 0 ≤ k → k + 1 < ss.length → spd ds k < spd ds (k + 1)

theorem dir_ok {c s h : Int} (hd : dirB c s h = true) : 1 ≤ h ∧ h ≤ 1000 ∧ 1 ≤ c ∧ c < h := by
  have hh : inB h 1 1000 = true := by simp only [dirB, Bool.and_eq_true] at hd; exact hd.1.1.1.1.1
  obtain ⟨g1, g2⟩ := inB_bd hh
  have gc : 1 ≤ c ∧ c ≤ h := by
    rcases Decidable.em (1 ≤ c ∧ c ≤ h) with g | g
    · exact g
    · rw [dir_false1 hh g] at hd; cases hd
  have e : c * c + s * s = h * h := by simp only [dirB, Bool.and_eq_true] at hd; simpa using hd.1.2
  have s0 : s ≠ 0 := by simp only [dirB, Bool.and_eq_true] at hd; simpa using hd.1.1.2
  refine ⟨g1, g2, gc.1, ?_⟩
  rcases Int.lt_or_le c h with g | g
  · exact g
  · have : c = h := by omega
    subst this
    have : s * s = 0 := by omega
    rcases Int.mul_eq_zero.1 this with g | g <;> exact absurd g s0
theorem rayOk_of {ds ss : List Int} {src co si hy : Int} (hp : profB ds ss = true) (hd : dirB co si hy = true) (h0 : 0 ≤ src) (h1 : src ≤ (ds.length : Int) - 1) : RayOk ds ss src co si hy := by
  obtain ⟨l0, l1, l2, l3⟩ := prof_len hp
  obtain ⟨a, b, c, d⟩ := dir_ok hd
  refine ⟨hp, hd, l0, l1, l2, l3, h0, by omega, a, b, c, d, fun k k0 k1 => prof_speed hp (spd_some k0 k1), fun k k0 k1 => ?_, fun k k0 k1 => ?_⟩
  · have := ris_in (prof_ris hp) (spd_some (xs := ds) k0 (by omega)); omega
  · obtain ⟨n, rfl⟩ := Int.eq_ofNat_of_zero_le k0
    have e1 := spd_some (xs := ds) (k := (n : Int)) (by omega) (by omega)
    have e2 := spd_some (xs := ds) (k := (n : Int) + 1) (by omega) (by omega)
    rw [show ((n : Int) + 1).toNat = n + 1 by omega] at e2
    exact ris_lt (prof_ris hp) e1 e2
theorem ray_ok {ds ss : List Int} {src co si hy k : Int} (h : rayE ds ss src co si hy k = 0) : RayOk ds ss src co si hy ∧ 0 ≤ k ∧ k < ss.length := by
  unfold rayE at h
  split at h
  · rename_i h1
    split at h
    · rename_i h2
      simp only [Bool.and_eq_true] at h1 h2
      obtain ⟨a, b⟩ := inB_bd h2.1
      obtain ⟨c, d⟩ := inB_bd h2.2
      have r := rayOk_of h1.1 h1.2 a b
      exact ⟨r, c, by have := r.l3; omega⟩
    · omega
  · omega
theorem rayE_ok {ds ss : List Int} {src co si hy k : Int} (h : RayOk ds ss src co si hy) (k0 : 0 ≤ k) (k1 : k < ss.length) : rayE ds ss src co si hy k = 0 := by
  have := h.l2; have := h.l3; have := h.s0; have := h.s1
  simp [rayE, h.prof, h.dir, inB]; omega
theorem RayOk.bd {ds ss : List Int} {src co si hy : Int} (h : RayOk ds ss src co si hy) {a k : Int} (a0 : 1 ≤ a) (a1 : a ≤ 1000) (k0 : 0 ≤ k) (k1 : k < ss.length) : 1300000 ≤ a * spd ss k ∧ a * spd ss k ≤ 1700000000 := by
  obtain ⟨g0, g1⟩ := h.sp k k0 k1
  have e1 := Int.mul_le_mul a0 g0 (by omega) (by omega)
  have e2 := Int.mul_le_mul a1 g1 (by omega) (by omega)
  omega
theorem RayOk.whole {ds ss : List Int} {src co si hy : Int} (h : RayOk ds ss src co si hy) : 1300000 ≤ hy * spd ss src ∧ hy * spd ss src ≤ 1700000000 := h.bd h.h0 h.h1 h.s0 h.s1
theorem RayOk.part {ds ss : List Int} {src co si hy : Int} (h : RayOk ds ss src co si hy) {k : Int} (k0 : 0 ≤ k) (k1 : k < ss.length) : 1300000 ≤ co * spd ss k ∧ co * spd ss k ≤ 1700000000 := h.bd h.c0 (by have := h.c1; have := h.h1; omega) k0 k1

abbrev rayV (A1 : Option Addr) (n1 c1 : Nat) (A2 : Option Addr) (n2 c2 : Nat) (src co si hy : Int) : Value := .agg #[.slice A1 n1 c1, .slice A2 n2 c2, .int .i64 src, .int .i64 co, .int .i64 si, .int .i64 hy]
abbrev zprof : Value := .agg #[.slice none 0 0, .slice none 0 0]
abbrev zray : Value := rayV none 0 0 none 0 0 0 0 0 0
theorem gen6 {P : World → Prop} {w w0 : World} {a b c d e f : Value} (B : Below w.heap.size w w0) (h0 : w0.cell? ⟨w.heap.size, 0, none⟩ = some a) (h1 : w0.cell? ⟨w.heap.size, 1, none⟩ = some b) (h2 : w0.cell? ⟨w.heap.size, 2, none⟩ = some c)
    (h3 : w0.cell? ⟨w.heap.size, 3, none⟩ = some d) (h4 : w0.cell? ⟨w.heap.size, 4, none⟩ = some e) (h5 : w0.cell? ⟨w.heap.size, 5, none⟩ = some f)
    (h : ∀ w0, Below w.heap.size w w0 → w0.cell? ⟨w.heap.size, 0, none⟩ = some a → w0.cell? ⟨w.heap.size, 1, none⟩ = some b → w0.cell? ⟨w.heap.size, 2, none⟩ = some c → w0.cell? ⟨w.heap.size, 3, none⟩ = some d → w0.cell? ⟨w.heap.size, 4, none⟩ = some e → w0.cell? ⟨w.heap.size, 5, none⟩ = some f → P w0) : P w0 := h w0 B h0 h1 h2 h3 h4 h5

end Go.Proofs.Ytbpekljemchmeaa
