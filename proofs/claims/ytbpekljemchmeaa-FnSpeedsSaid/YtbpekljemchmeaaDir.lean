/- What a valid direction is, by the program and by the reference. -/
import Derived.Test.YtbpekljemchmeaaNum
import Derived.Test.YtbpekljemchmeaaProf
import Derived.IntWalk
namespace Go.Proofs.Ytbpekljemchmeaa
set_option linter.unusedSimpArgs false
set_option linter.unusedVariables false
open Go.RowKit

abbrev dirV (c s h : Int) : Value := .agg #[.int .i64 c, .int .i64 s, .int .i64 h]

@[irreducible] def dirB (c s h : Int) : Bool :=
  inB h 1 1000 && inB c 1 1000 && inB s (-1000) 1000 && decide (s ≠ 0) && decide (c * c + s * s = h * h) && decide (Int.gcd (Int.gcd c s : Nat) h = 1)

theorem dir_false1 {c s h : Int} (hh : inB h 1 1000 = true) (hc : ¬ (1 ≤ c ∧ c ≤ h)) : dirB c s h = false := by
  obtain ⟨h1, h2⟩ := inB_bd hh
  rcases Decidable.em (c * c + s * s = h * h ∧ 1 ≤ c) with ⟨g1, g2⟩ | g
  · have := sq_mono (a := h + 1) (b := c) (by omega) (by omega)
    have := (sq_bd (a := s) (m := s.natAbs) (by omega) (by omega)).1
    have e : (h + 1) * (h + 1) = h * h + (2 * h + 1) := by rw [Int.add_mul, Int.mul_add]; omega
    omega
  · unfold dirB inB
    by_cases g2 : 1 ≤ c
    · have : ¬ c * c + s * s = h * h := fun e => g ⟨e, g2⟩
      simp [this]
    · simp [g2]
theorem dir_false2 {c s h : Int} (hh : inB h 1 1000 = true) (hc : ¬ (-h ≤ s ∧ s ≤ h)) : dirB c s h = false := by
  obtain ⟨h1, h2⟩ := inB_bd hh
  by_cases g1 : c * c + s * s = h * h
  · have h3 := sq_mono (a := h + 1) (b := s.natAbs) (by omega) (by omega)
    have h4 := (sq_bd (a := c) (m := c.natAbs) (by omega) (by omega)).1
    have e : (h + 1) * (h + 1) = h * h + (2 * h + 1) := by rw [Int.add_mul, Int.mul_add]; omega
    have e2 : ((s.natAbs : Int)) * (s.natAbs : Int) = s * s := Int.natAbs_mul_self
    omega
  · unfold dirB; simp [g1]

theorem gcd_le {c s : Int} (hc : 1 ≤ c) : 0 ≤ ((Int.gcd c s : Nat) : Int) ∧ ((Int.gcd c s : Nat) : Int) ≤ c := by
  refine ⟨by omega, ?_⟩
  have h1 : Int.gcd c s ∣ c.natAbs := Int.gcd_dvd_natAbs_left c s
  have := Nat.le_of_dvd (by omega) h1
  omega

theorem within_q {x lo hi : Int} {b : Bool} (h : inB x lo hi = b) {w : World} {n : Nat} :
    Calls Try.prog 24 #[.int .i64 x, .int .i64 lo, .int .i64 hi] (w.drewN n) fun e w'' => e = .returned (.bool b) ∧ ∃ m, w'' = w.drewN m := by
  subst h
  exact q_same (within_any _ _ _ _)
theorem l01In_q {x lo hi : Int} {b : Bool} (h : inB x lo hi = b) {w : World} {n : Nat} :
    Calls Try.prog 27 #[.int .i64 x, .int .i64 lo, .int .i64 hi] (w.drewN n) fun e w'' => e = .returned (.bool b) ∧ ∃ m, w'' = w.drewN m := by
  subst h
  exact q_same (l01In_any _ _ _ _)
theorem gen3 {P : World → Prop} {w w0 : World} {a b c : Value} (B : Below w.heap.size w w0) (h0 : w0.cell? ⟨w.heap.size, 0, none⟩ = some a) (h1 : w0.cell? ⟨w.heap.size, 1, none⟩ = some b) (h2 : w0.cell? ⟨w.heap.size, 2, none⟩ = some c)
    (h : ∀ w0, Below w.heap.size w w0 → w0.cell? ⟨w.heap.size, 0, none⟩ = some a → w0.cell? ⟨w.heap.size, 1, none⟩ = some b → w0.cell? ⟨w.heap.size, 2, none⟩ = some c → P w0) : P w0 := h w0 B h0 h1 h2



end Go.Proofs.Ytbpekljemchmeaa
