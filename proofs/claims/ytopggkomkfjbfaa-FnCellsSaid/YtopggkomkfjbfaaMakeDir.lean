/- The direction of two numbers, by the reference. -/
import Derived.Test.YtopggkomkfjbfaaSpd
import Derived.BigRegion
import Derived.Deep.RegionHeld3
import Derived.Deep.DeepCutAuto
import Derived.IntWalk
namespace Go.Proofs.Ytopggkomkfjbfaa
set_option linter.unusedSimpArgs false
set_option linter.unusedVariables false
open Go.RowKit

def mdB (m n : Int) : Bool := inB n 2 1000 && inB m 1 (n - 1) && decide (n * n + m * m ≤ 1000)
def mdG (m n : Int) : Int := ((Int.gcd ((Int.gcd (n * n - m * m) (2 * m * n) : Nat) : Int) (n * n + m * m) : Nat) : Int)
@[irreducible] def mdC (m n : Int) : Int := if mdB m n then (n * n - m * m) / mdG m n else 0
@[irreducible] def mdS (m n : Int) (dn : Bool) : Int := if mdB m n then (if dn then 2 * m * n / mdG m n else -(2 * m * n / mdG m n)) else 0
@[irreducible] def mdH (m n : Int) : Int := if mdB m n then (n * n + m * m) / mdG m n else 0
@[irreducible] def mdE (m n : Int) : Int := if mdB m n then 0 else 2
theorem md_bad {m n : Int} {dn : Bool} (h : mdB m n = false) : mdC m n = 0 ∧ mdS m n dn = 0 ∧ mdH m n = 0 ∧ mdE m n = 2 := by
  unfold mdC mdS mdH mdE; simp [h]
theorem md_good {m n : Int} (h : mdB m n = true) : mdC m n = (n * n - m * m) / mdG m n ∧ mdS m n true = 2 * m * n / mdG m n ∧ mdS m n false = -(2 * m * n / mdG m n) ∧ mdH m n = (n * n + m * m) / mdG m n ∧ mdE m n = 0 := by
  unfold mdC mdS mdH mdE; simp [h]
structure MdOk (m n : Int) : Prop where
  n0 : 2 ≤ n
  n1 : n ≤ 31
  m0 : 1 ≤ m
  m1 : m ≤ n - 1
  nn : n * n ≤ 999
  nn0 : 4 ≤ n * n
  mm : m * m ≤ 900
  mm0 : 1 ≤ m * m
  mn0 : 2 ≤ m * n
  mn1 : m * n ≤ 930
  mn2 : 2 * m * n = 2 * (m * n)
  c0 : m * m < n * n
  hh : n * n + m * m ≤ 1000
  g0 : 1 ≤ mdG m n
  g1 : mdG m n ≤ n * n + m * m
theorem mdOk_of {m n : Int} (h : mdB m n = true) : MdOk m n := by
  simp only [mdB, Bool.and_eq_true, decide_eq_true_eq] at h
  obtain ⟨⟨h1, h2⟩, h3⟩ := h
  have a := inB_bd h1
  have b := inB_bd h2
  have m2 : 1 ≤ m * m := by have := Int.mul_le_mul b.1 b.1 (by omega) (by omega); omega
  have n2 : n ≤ 31 := by
    rcases Int.lt_or_le 31 n with q | q
    · have := Int.mul_le_mul (show (32 : Int) ≤ n by omega) (show (32 : Int) ≤ n by omega) (by omega) (by omega)
      omega
    · exact q
  have e1 := Int.mul_le_mul b.2 b.2 (show 0 ≤ m by omega) (by omega)
  have e2 : (n - 1) * (n - 1) = n * n - 2 * n + 1 := by rw [Int.sub_mul, Int.mul_sub]; omega
  have e3 := Int.mul_le_mul a.1 a.1 (by omega) (by omega)
  have e4 := Int.mul_le_mul (show m ≤ 30 by omega) (show m ≤ 30 by omega) (by omega) (by omega)
  have e5 := Int.mul_le_mul b.1 a.1 (by omega) (by omega)
  have e6 := Int.mul_le_mul (show m ≤ 30 by omega) n2 (by omega) (by omega)
  have hp : 0 < Int.gcd ((Int.gcd (n * n - m * m) (2 * m * n) : Nat) : Int) (n * n + m * m) := Int.gcd_pos_of_ne_zero_right _ (by omega)
  have hd : mdG m n ∣ n * n + m * m := Int.gcd_dvd_right _ _
  have hg : 1 ≤ mdG m n := by unfold mdG; omega
  exact ⟨a.1, n2, b.1, b.2, by omega, by omega, by omega, m2, by omega, by omega, Int.mul_assoc _ _ _, by omega, h3, hg, Int.le_of_dvd (by omega) hd⟩

set_option maxRecDepth 100000 in
set_option maxHeartbeats 4000000 in
theorem specMakeDir_any (m n : Int) (dn : Bool) (w : World) :
    Calls Try.prog 117 #[.int .i64 m, .int .i64 n, .bool dn] w fun e w' => e = .returned (.tuple #[dirV (mdC m n) (mdS m n dn) (mdH m n), .int .i64 (mdE m n)]) ∧ Below w.heap.size w w' := by
  by_cases h1 : inB n 2 1000 = true
  · have a := inB_bd h1
    by_cases h2 : inB m 1 (n - 1) = true
    · have b := inB_bd h2
      have e1 := Int.mul_le_mul a.2 a.2 (show 0 ≤ n by omega) (by omega)
      have e2 := Int.mul_nonneg (show 0 ≤ n by omega) (show 0 ≤ n by omega)
      have e3 := Int.mul_le_mul (show m ≤ 1000 by omega) (show m ≤ 1000 by omega) (show 0 ≤ m by omega) (by omega)
      have e4 := Int.mul_nonneg (show 0 ≤ m by omega) (show 0 ≤ m by omega)
      by_cases h3 : n * n + m * m ≤ 1000
      · have hb : mdB m n = true := by simp [mdB, h1, h2, h3]
        obtain ⟨g1, g2, g3, g4, g5⟩ := md_good hb
        obtain ⟨k1, k2, k3, k4, k5, k6, k7, k8, k9, k10, k11, k12, k13, k14, k15⟩ := mdOk_of hb
        have G1 := Lib.hid g1; have G2 := Lib.hid g2; have G3 := Lib.hid g3; have G4 := Lib.hid g4; have G5 := Lib.hid g5
        have K11 := Lib.hid k11
        obtain ⟨mn, hmn⟩ : ∃ mn, m * n = mn := ⟨_, rfl⟩
        clear g1 g2 g3 g4 g5 hb
        have s1 : 0 ≤ 2 * m * n := by omega
        have s2 : 2 * m * n ≤ 1860 := by omega
        clear hmn k11
        go_enter Try.func117, Try.ntmps117
        go_upto_region 4 with (go_at_call 77; refine (l01In_any _ _ _ _).mono ?_; rintro e w' ⟨rfl, rfl⟩)
        have hG0 : mdG m n = ((Int.gcd ((Int.gcd (n * n - m * m) (2 * m * n) : Nat) : Int) (n * n + m * m) : Nat) : Int) := rfl
        have d0 : 0 < n * n - m * m := by omega
        have d1 : n * n - m * m ≤ 1000 := by omega
        have d2 : 0 < n * n + m * m := by omega
        generalize n * n - m * m = C at *
        generalize 2 * m * n = Sx at *
        generalize n * n + m * m = Hh at *
        generalize mdG m n = G at *
        have hd : ((Int.gcd C Sx : Nat) : Int) ∣ C := Int.gcd_dvd_left C Sx
        have hd2 := Int.le_of_dvd (by omega) hd
        have hd3 : (0 : Int) ≤ ((Int.gcd C Sx : Nat) : Int) := Int.natCast_nonneg _
        clear hd
        have v1_ : 0 ≤ C / G ∧ C / G ≤ C := ⟨Int.ediv_nonneg (by omega) (by omega), Int.ediv_le_self _ (by omega)⟩
        have v2_ : 0 ≤ Sx / G ∧ Sx / G ≤ Sx := ⟨Int.ediv_nonneg (by omega) (by omega), Int.ediv_le_self _ (by omega)⟩
        have v3_ : 0 ≤ Hh / G ∧ Hh / G ≤ Hh := ⟨Int.ediv_nonneg (by omega) (by omega), Int.ediv_le_self _ (by omega)⟩
        obtain ⟨C', hC'⟩ : ∃ x, C / G = x := ⟨_, rfl⟩
        obtain ⟨S', hS'⟩ : ∃ x, Sx / G = x := ⟨_, rfl⟩
        obtain ⟨H', hH'⟩ : ∃ x, Hh / G = x := ⟨_, rfl⟩
        have T1 : C.tdiv G = C' := by rw [Int.tdiv_eq_ediv_of_nonneg (by omega)]; exact hC'
        have T2 : Sx.tdiv G = S' := by rw [Int.tdiv_eq_ediv_of_nonneg (by omega)]; exact hS'
        have T3 : Hh.tdiv G = H' := by rw [Int.tdiv_eq_ediv_of_nonneg (by omega)]; exact hH'
        rw [hC'] at v1_
        rw [hS'] at v2_
        rw [hH'] at v3_
        have HG := Lib.hid hG0; have HC' := Lib.hid hC'; have HS' := Lib.hid hS'; have HH' := Lib.hid hH'; have HT := Lib.hid (And.intro T1 (And.intro T2 T3))
        clear hG0 hC' hS' hH' T1 T2 T3
        go_wp2_with fail
        (refine (l01Divisor_any _ _ _ (by omega) (by omega) (by omega) (by omega)).mono ?_; rintro e w1 ⟨rfl, hb1⟩; obtain ⟨B1, hz1, q1, s1, t1, x1, y1, z1⟩ := bkeep (w := w) [w.heap.size] (by first | (simp; done) | (simp; omega)) (by first | (go_grown; done) | exact bdrewN (by go_grown) _) hb1; (try simp at hz1); clear hb1)
        go_wp2_with fail
        (refine (l01Divisor_any _ _ _ (by omega) (by omega) (by omega) (by omega)).mono ?_; rintro e w2 ⟨rfl, hb2⟩; obtain ⟨B2, hz2, q2, s2, t2, x2, y2, z2⟩ := bkeep (w := w) [w.heap.size] (by first | (simp; done) | (simp; omega)) (by first | (go_grown; done) | exact bdrewN (by go_grown) _) hb2; (try simp at hz2); clear hb2)
        rw [← HG.out]
        go_wp2_with fail
        obtain ⟨t1, t2, t3⟩ := HT.out
        have gnz : ¬ G = 0 := by omega
        refine genS (S := fun w' => Below w.heap.size w w' ∧ w.heap.size < w'.heap.size ∧ w'.cell? ⟨w.heap.size, 0, none⟩ = some (.int .i64 0) ∧ w'.cell? ⟨w.heap.size, 1, none⟩ = some (.int .i64 0) ∧ w'.cell? ⟨w.heap.size, 2, none⟩ = some (.int .i64 0) ∧ (∀ o, w'.frozen? ⟨w.heap.size, o, none⟩ = false)) ⟨(by first | with_reducible exact B2 | (go_grown; done) | with_reducible exact bdrewN B2 _ | (go_grown <;> first | with_reducible exact bdrewN B2 _ | with_reducible exact B2)), by first | omega | (simp; done) | (simp; omega), by simp [*, go_sem], by simp [*, go_sem], by simp [*, go_sem], fun o => by simp [*, go_sem]⟩ ?_
        rintro w3 ⟨B3, lt3, r0, r1, r2, fR⟩
        have u1 : 0 ≤ C' := v1_.1
        have u2 : C' ≤ 1000 := by omega
        have u3 : 0 ≤ S' := v2_.1
        have u4 : S' ≤ 2000 := by omega
        have u5 : 0 ≤ H' := v3_.1
        have u6 : H' ≤ 1000 := by omega
        clear v1_ v2_ v3_ e1 e2 e3 e4 k5 k6 k7 k8 k9 k10 k12 k13 s1 s2 hd2 hd3 h3 h1 h2
        go_region_held3 (fun w' => w'.cell? ⟨w.heap.size, 0, none⟩ = some (.int .i64 0) ∧ w'.cell? ⟨w.heap.size, 1, none⟩ = some (.int .i64 0) ∧ w'.cell? ⟨w.heap.size, 2, none⟩ = some (.int .i64 0)) (first | (go_keep; done) | (simp [*, go_sem]; done))
          (fail)
        have ne1 : w.heap.size ≠ w3.heap.size := by omega
        have ne2 : w3.heap.size ≠ w.heap.size := by omega
        cases dn with
        | true =>
          go_wp2
          refine bodyPost_ret (by simp [results, Try.results117, go_sem, *] <;> rfl) rfl ?_
          exact ⟨by rw [G1.out, G2.out, G4.out, G5.out, HC'.out, HS'.out, HH'.out], (by first | with_reducible exact B3 | (go_grown; done) | with_reducible exact bdrewN B3 _ | (go_grown <;> first | with_reducible exact bdrewN B3 _ | with_reducible exact B3))⟩
        | false =>
          go_wp2
          refine bodyPost_ret (by simp [results, Try.results117, go_sem, *] <;> rfl) rfl ?_
          exact ⟨by rw [G1.out, G3.out, G4.out, G5.out, HC'.out, HS'.out, HH'.out], (by first | with_reducible exact B3 | (go_grown; done) | with_reducible exact bdrewN B3 _ | (go_grown <;> first | with_reducible exact bdrewN B3 _ | with_reducible exact B3))⟩
      · have hb : mdB m n = false := by simp [mdB, h3]
        obtain ⟨g1, g2, g3, g4⟩ := md_bad (dn := dn) hb
        go_enter Try.func117, Try.ntmps117
        go_wp2_with (go_at_call 77; refine (l01In_any _ _ _ _).mono ?_; rintro e w' ⟨rfl, rfl⟩)
        refine bodyPost_ret (by simp [results, Try.results117, go_sem, *] <;> rfl) rfl ?_
        exact ⟨by rw [g1, g2, g3, g4], by go_grown⟩
    · have hb : mdB m n = false := by simp [mdB, h2]
      obtain ⟨g1, g2, g3, g4⟩ := md_bad (dn := dn) hb
      go_enter Try.func117, Try.ntmps117
      go_wp2_with (go_at_call 77; refine (l01In_any _ _ _ _).mono ?_; rintro e w' ⟨rfl, rfl⟩)
      refine bodyPost_ret (by simp [results, Try.results117, go_sem, *] <;> rfl) rfl ?_
      exact ⟨by rw [g1, g2, g3, g4], by go_grown⟩
  · have hb : mdB m n = false := by simp [mdB, h1]
    obtain ⟨g1, g2, g3, g4⟩ := md_bad (dn := dn) hb
    go_enter Try.func117, Try.ntmps117
    go_wp2_with (go_at_call 77; refine (l01In_any _ _ _ _).mono ?_; rintro e w' ⟨rfl, rfl⟩)
    refine bodyPost_ret (by simp [results, Try.results117, go_sem, *] <;> rfl) rfl ?_
    exact ⟨by rw [g1, g2, g3, g4], by go_grown⟩
end Go.Proofs.Ytopggkomkfjbfaa
