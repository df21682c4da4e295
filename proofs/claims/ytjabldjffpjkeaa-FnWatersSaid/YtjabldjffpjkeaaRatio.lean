/- Fractions in lowest terms, by the program and by the reference. -/
import Derived.Test.YtjabldjffpjkeaaSpd
import Derived.IntWalk
namespace Go.Proofs.Ytjabldjffpjkeaa
set_option linter.unusedSimpArgs false
set_option linter.unusedVariables false
open Go.RowKit

def gcI (a b : Int) : Int := ((Int.gcd a b : Nat) : Int)
def rnE (a b : Int) : Int := a / gcI a b
def rdE (a b : Int) : Int := b / gcI a b
def ratOk (a b : Int) : Bool := inB (rnE a b) (-1000000000) 1000000000

structure RatF (a b : Int) : Prop where
  g0 : 1 ≤ gcI a b
  g1 : gcI a b ≤ b
  na : a.tdiv (gcI a b) = rnE a b
  na1 : -9000000000000000000 ≤ a / gcI a b
  na2 : a / gcI a b ≤ 9000000000000000000
  nb1 : 1 ≤ b / gcI a b
  nb2 : b / gcI a b ≤ b
  one : Int.gcd (rnE a b) (rdE a b) = 1
theorem ratF {a b : Int} (hb : 1 ≤ b) (h1 : -9000000000000000000 ≤ a) (h2 : a ≤ 9000000000000000000) : RatF a b := by
  have hp : 0 < Int.gcd a b := Int.gcd_pos_of_ne_zero_right a (by omega)
  have g0 : 1 ≤ gcI a b := by unfold gcI; omega
  have d1 : gcI a b ∣ a := Int.gcd_dvd_left a b
  have d2 : gcI a b ∣ b := Int.gcd_dvd_right a b
  have g1 : gcI a b ≤ b := Int.le_of_dvd (by omega) d2
  have e2 := Int.ediv_mul_cancel d2
  obtain ⟨m1, m2⟩ := div_bd (a := a) (b := gcI a b) (M := 9000000000000000000) (by omega) h1 h2
  obtain ⟨n1, n2⟩ := div_bd (a := b) (b := gcI a b) (M := b) (by omega) (by omega) (by omega)
  have n3 : 0 < b / gcI a b := Int.ediv_pos_of_pos_of_dvd (by omega) (by omega) d2
  refine ⟨g0, g1, Int.tdiv_eq_ediv_of_dvd d1, m1, m2, by omega, n2, ?_⟩
  have h := Int.gcd_ediv_gcd_ediv_gcd hp
  exact h

theorem gen2 {P : World → Prop} {w w0 : World} {a b : Value} (B : Below w.heap.size w w0) (h0 : w0.cell? ⟨w.heap.size, 0, none⟩ = some a) (h1 : w0.cell? ⟨w.heap.size, 1, none⟩ = some b)
    (h : ∀ w0, Below w.heap.size w w0 → w0.cell? ⟨w.heap.size, 0, none⟩ = some a → w0.cell? ⟨w.heap.size, 1, none⟩ = some b → P w0) : P w0 := h w0 B h0 h1

abbrev ratV (a b : Int) : Value := .agg #[.int .i64 a, .int .i64 b]
@[go_sem] theorem ratV_def (a b : Int) : ratV a b = .agg #[.int .i64 a, .int .i64 b] := rfl

set_option maxHeartbeats 1000000 in
theorem implIsRatio_any (a b : Int) (w : World) (ha : -9000000000000000000 ≤ a) (ha2 : a ≤ 9000000000000000000) (hb : 1 ≤ b) (hb2 : b ≤ 1000000000) (hg : Int.gcd a b = 1) :
    Calls Try.prog 67 #[ratV a b] w fun e w' => e = .returned (.bool (inB a (-1000000000) 1000000000)) ∧ Below w.heap.size w w' := by
  have h2 : inB b 1 1000000000 = true := by simp [inB]; omega
  by_cases h1 : inB a (-1000000000) 1000000000 = true
  · have he : (((Int.gcd a b : Nat) : Int) == 1) = inB a (-1000000000) 1000000000 := by rw [h1, hg]; rfl
    have HE := Lib.hid he
    clear hg he
    go_enter Try.func67, Try.ntmps67
    go_wp2_with (first
      | (go_at_call 51; refine (within_any _ _ _ _).mono ?_; rintro e w' ⟨rfl, rfl⟩)
      | (go_at_call 66; refine (gcd_any _ _ _ (by omega) (by omega) (by omega) (by omega)).mono ?_; rintro e w1 ⟨rfl, hb1⟩; obtain ⟨B1, hz1, q1, s1, t1, x1, y1, z1⟩ := bkeep (w := w) [w.heap.size] (by first | (simp; done) | (simp; omega)) (by first | (go_grown; done) | exact bdrewN (by go_grown) _) hb1; (try simp at hz1); clear hb1))
    go_ret
    exact ⟨ret_bool (by first | exact HE.out | exact HE.out.symm | (simpa using HE.out)), B1⟩
  · have h1' : inB a (-1000000000) 1000000000 = false := by simpa using h1
    have HE := Lib.hid h1'
    clear h1 hg
    go_enter Try.func67, Try.ntmps67
    go_wp2_with (go_at_call 51; refine (within_any _ _ _ _).mono ?_; rintro e w' ⟨rfl, rfl⟩)
    go_ret
    exact ⟨ret_bool HE.out.symm, by go_grown⟩
set_option maxHeartbeats 1000000 in
theorem specIsRatio_any (a b : Int) (w : World) (ha : -9000000000000000000 ≤ a) (ha2 : a ≤ 9000000000000000000) (hb : 1 ≤ b) (hb2 : b ≤ 1000000000) (hg : Int.gcd a b = 1) :
    Calls Try.prog 73 #[ratV a b] w fun e w' => e = .returned (.bool (inB a (-1000000000) 1000000000)) ∧ Below w.heap.size w w' := by
  have h2 : inB b 1 1000000000 = true := by simp [inB]; omega
  by_cases h1 : inB a (-1000000000) 1000000000 = true
  · have he : (((Int.gcd a b : Nat) : Int) == 1) = inB a (-1000000000) 1000000000 := by rw [h1, hg]; rfl
    have HE := Lib.hid he
    clear hg he
    go_enter Try.func73, Try.ntmps73
    go_wp2_with (first
      | (go_at_call 56; refine (l01In_any _ _ _ _).mono ?_; rintro e w' ⟨rfl, rfl⟩)
      | (go_at_call 72; refine (l01Divisor_any _ _ _ (by omega) (by omega) (by omega) (by omega)).mono ?_; rintro e w1 ⟨rfl, hb1⟩; obtain ⟨B1, hz1, q1, s1, t1, x1, y1, z1⟩ := bkeep (w := w) [w.heap.size] (by first | (simp; done) | (simp; omega)) (by first | (go_grown; done) | exact bdrewN (by go_grown) _) hb1; (try simp at hz1); clear hb1))
    go_ret
    exact ⟨ret_bool (by first | exact HE.out | exact HE.out.symm | (simpa using HE.out)), B1⟩
  · have h1' : inB a (-1000000000) 1000000000 = false := by simpa using h1
    have HE := Lib.hid h1'
    clear h1 hg
    go_enter Try.func73, Try.ntmps73
    go_wp2_with (go_at_call 56; refine (l01In_any _ _ _ _).mono ?_; rintro e w' ⟨rfl, rfl⟩)
    go_ret
    exact ⟨ret_bool HE.out.symm, by go_grown⟩
@[irreducible] def ratN (a b : Int) : Int := if ratOk a b then rnE a b else 0
@[irreducible] def ratD (a b : Int) : Int := if ratOk a b then rdE a b else 0
@[irreducible] def ratC (a b c : Int) : Int := if ratOk a b then 0 else c

set_option maxHeartbeats 2000000 in
theorem implRatio_any (a b c : Int) (w : World) (hb : 1 ≤ b) (hb2 : b ≤ 1000000000) (h1 : -9000000000000000000 ≤ a) (h2 : a ≤ 9000000000000000000) :
    Calls Try.prog 59 #[.int .i64 a, .int .i64 b, .int .i64 c] w fun e w' => e = .returned (.tuple #[ratV (ratN a b) (ratD a b), .int .i64 (ratC a b c)]) ∧ Below w.heap.size w w' := by
  obtain ⟨g0, g1, na, m1, m2, n1, n2, one⟩ := ratF hb h1 h2
  have hr : rnE a b = a / gcI a b := rfl
  have hd : rdE a b = b / gcI a b := rfl
  have hgc : gcI a b = ((Int.gcd a b : Nat) : Int) := rfl
  have HG := Lib.hid hgc
  have ONE := Lib.hid one
  clear one hgc
  rw [hr, hd] at ONE
  rw [hr] at na
  generalize hg : gcI a b = g at *
  have hgz : (g == 0) = false := beq_eq_false_iff_ne.2 (by omega)
  by_cases hok : ratOk a b = true
  · skip
    have e1 : ratN a b = a / g := by unfold ratN; rw [if_pos hok, hr]
    have e2 : ratD a b = b / g := by unfold ratD; rw [if_pos hok, hd]
    have e3 : ratC a b c = 0 := by unfold ratC; rw [if_pos hok]
    unfold ratOk at hok
    rw [hr] at hok
    have E1 := Lib.hid e1; have E2 := Lib.hid e2; have E3 := Lib.hid e3; have NA := Lib.hid na; clear e1 e2 e3 hr hd hg na
    by_cases ha : 0 ≤ a
    all_goals
      go_enter Try.func59, Try.ntmps59
      go_wp2_with fail
      refine (gcd_any _ _ _ h1 h2 (by omega) (by omega)).mono ?_
      rw [← HG.out]
      rintro e w1 ⟨rfl, hb1⟩; obtain ⟨B1, hz1, q1, s1, t1, x1, y1, z1⟩ := bkeep (w := w) [w.heap.size] (by first | (simp; done) | (simp; omega)) (by first | (go_grown; done) | exact bdrewN (by go_grown) _) hb1; (try simp at hz1); clear hb1
      go_wp2_with fail
      go_region
      go_wp2_with fail
      (try simp only [NA.out])
      (refine (implIsRatio_any (a / g) (b / g) _ m1 m2 n1 (by omega) ONE.out).mono ?_; rintro e w2 ⟨rfl, hb2⟩; obtain ⟨B2, hz2, q2, s2, t2, x2, y2, z2⟩ := bkeep (w := w) [w.heap.size, w1.heap.size] (by first | (simp; done) | (simp; omega)) (by first | (go_grown; done) | exact bdrewN (by go_grown) _) hb2; (try simp at hz2); clear hb2)
      have c0 : w2.cell? ⟨w.heap.size, 0, none⟩ = some (.int .i64 0) := by simp [*, go_sem]
      have c1 : w2.cell? ⟨w.heap.size, 1, none⟩ = some (.int .i64 0) := by simp [*, go_sem]
      have d0 : w2.cell? ⟨w1.heap.size, 0, none⟩ = some (.int .i64 (a / g)) := by simp [*, go_sem]
      have d1 : w2.cell? ⟨w1.heap.size, 1, none⟩ = some (.int .i64 (b / g)) := by simp [*, go_sem]
      have f0 : w2.frozen? ⟨w.heap.size, 0, none⟩ = false := by simp [*, go_sem]
      have f1 : w2.frozen? ⟨w.heap.size, 1, none⟩ = false := by simp [*, go_sem]
      clear q1 q2 s1 s2
      go_wp2
      refine bodyPost_ret (by simp [results, Try.results59, go_sem, *] <;> rfl) rfl ?_
      exact ⟨by rw [E1.out, E2.out, E3.out], (by first | with_reducible exact B2 | (go_grown; done) | with_reducible exact bdrewN B2 _ | (go_grown <;> first | with_reducible exact bdrewN B2 _ | with_reducible exact B2))⟩
  · have hok : ratOk a b = false := by simpa using hok
    have e1 : ratN a b = 0 := by unfold ratN; rw [if_neg (by simp [hok])]
    have e2 : ratD a b = 0 := by unfold ratD; rw [if_neg (by simp [hok])]
    have e3 : ratC a b c = c := by unfold ratC; rw [if_neg (by simp [hok])]
    unfold ratOk at hok
    rw [hr] at hok
    have E1 := Lib.hid e1; have E2 := Lib.hid e2; have E3 := Lib.hid e3; have NA := Lib.hid na; clear e1 e2 e3 hr hd hg na
    by_cases ha : 0 ≤ a
    all_goals
      go_enter Try.func59, Try.ntmps59
      go_wp2_with fail
      refine (gcd_any _ _ _ h1 h2 (by omega) (by omega)).mono ?_
      rw [← HG.out]
      rintro e w1 ⟨rfl, hb1⟩; obtain ⟨B1, hz1, q1, s1, t1, x1, y1, z1⟩ := bkeep (w := w) [w.heap.size] (by first | (simp; done) | (simp; omega)) (by first | (go_grown; done) | exact bdrewN (by go_grown) _) hb1; (try simp at hz1); clear hb1
      go_wp2_with fail
      go_region
      go_wp2_with fail
      (try simp only [NA.out])
      (refine (implIsRatio_any (a / g) (b / g) _ m1 m2 n1 (by omega) ONE.out).mono ?_; rintro e w2 ⟨rfl, hb2⟩; obtain ⟨B2, hz2, q2, s2, t2, x2, y2, z2⟩ := bkeep (w := w) [w.heap.size, w1.heap.size] (by first | (simp; done) | (simp; omega)) (by first | (go_grown; done) | exact bdrewN (by go_grown) _) hb2; (try simp at hz2); clear hb2)
      have c0 : w2.cell? ⟨w.heap.size, 0, none⟩ = some (.int .i64 0) := by simp [*, go_sem]
      have c1 : w2.cell? ⟨w.heap.size, 1, none⟩ = some (.int .i64 0) := by simp [*, go_sem]
      have d0 : w2.cell? ⟨w1.heap.size, 0, none⟩ = some (.int .i64 (a / g)) := by simp [*, go_sem]
      have d1 : w2.cell? ⟨w1.heap.size, 1, none⟩ = some (.int .i64 (b / g)) := by simp [*, go_sem]
      have f0 : w2.frozen? ⟨w.heap.size, 0, none⟩ = false := by simp [*, go_sem]
      have f1 : w2.frozen? ⟨w.heap.size, 1, none⟩ = false := by simp [*, go_sem]
      clear q1 q2 s1 s2
      go_wp2
      refine bodyPost_ret (by simp [results, Try.results59, go_sem, *] <;> rfl) rfl ?_
      exact ⟨by rw [E1.out, E2.out, E3.out], (by first | with_reducible exact B2 | (go_grown; done) | with_reducible exact bdrewN B2 _ | (go_grown <;> first | with_reducible exact bdrewN B2 _ | with_reducible exact B2))⟩
set_option maxHeartbeats 2000000 in
theorem l03Make_any (a b : Int) (w : World) (hb : 1 ≤ b) (hb2 : b ≤ 1000000000) (h1 : -9000000000000000000 ≤ a) (h2 : a ≤ 9000000000000000000) :
    Calls Try.prog 68 #[.int .i64 a, .int .i64 b] w fun e w' => e = .returned (.tuple #[ratV (ratN a b) (ratD a b), .int .i64 (ratC a b 2)]) ∧ Below w.heap.size w w' := by
  obtain ⟨g0, g1, na, m1, m2, n1, n2, one⟩ := ratF hb h1 h2
  have hr : rnE a b = a / gcI a b := rfl
  have hd : rdE a b = b / gcI a b := rfl
  have hgc : gcI a b = ((Int.gcd a b : Nat) : Int) := rfl
  have HG := Lib.hid hgc
  have ONE := Lib.hid one
  clear one hgc
  rw [hr, hd] at ONE
  rw [hr] at na
  generalize hg : gcI a b = g at *
  have hgz : (g == 0) = false := beq_eq_false_iff_ne.2 (by omega)
  by_cases hok : ratOk a b = true
  · skip
    have e1 : ratN a b = a / g := by unfold ratN; rw [if_pos hok, hr]
    have e2 : ratD a b = b / g := by unfold ratD; rw [if_pos hok, hd]
    have e3 : ratC a b 2 = 0 := by unfold ratC; rw [if_pos hok]
    unfold ratOk at hok
    rw [hr] at hok
    have E1 := Lib.hid e1; have E2 := Lib.hid e2; have E3 := Lib.hid e3; have NA := Lib.hid na; clear e1 e2 e3 hr hd hg na
    by_cases ha : 0 ≤ a
    all_goals
      go_enter Try.func68, Try.ntmps68
      go_wp2_with fail
      refine (l01Divisor_any _ _ _ h1 h2 (by omega) (by omega)).mono ?_
      rw [← HG.out]
      rintro e w1 ⟨rfl, hb1⟩; obtain ⟨B1, hz1, q1, s1, t1, x1, y1, z1⟩ := bkeep (w := w) [w.heap.size] (by first | (simp; done) | (simp; omega)) (by first | (go_grown; done) | exact bdrewN (by go_grown) _) hb1; (try simp at hz1); clear hb1
      go_wp2_with fail
      go_region
      go_wp2_with fail
      (try simp only [NA.out])
      (refine (specIsRatio_any (a / g) (b / g) _ m1 m2 n1 (by omega) ONE.out).mono ?_; rintro e w2 ⟨rfl, hb2⟩; obtain ⟨B2, hz2, q2, s2, t2, x2, y2, z2⟩ := bkeep (w := w) [w.heap.size, w1.heap.size] (by first | (simp; done) | (simp; omega)) (by first | (go_grown; done) | exact bdrewN (by go_grown) _) hb2; (try simp at hz2); clear hb2)
      have c0 : w2.cell? ⟨w.heap.size, 0, none⟩ = some (.int .i64 0) := by simp [*, go_sem]
      have c1 : w2.cell? ⟨w.heap.size, 1, none⟩ = some (.int .i64 0) := by simp [*, go_sem]
      have d0 : w2.cell? ⟨w1.heap.size, 0, none⟩ = some (.int .i64 (a / g)) := by simp [*, go_sem]
      have d1 : w2.cell? ⟨w1.heap.size, 1, none⟩ = some (.int .i64 (b / g)) := by simp [*, go_sem]
      have f0 : w2.frozen? ⟨w.heap.size, 0, none⟩ = false := by simp [*, go_sem]
      have f1 : w2.frozen? ⟨w.heap.size, 1, none⟩ = false := by simp [*, go_sem]
      clear q1 q2 s1 s2
      go_wp2
      refine bodyPost_ret (by simp [results, Try.results68, go_sem, *] <;> rfl) rfl ?_
      exact ⟨by rw [E1.out, E2.out, E3.out], (by first | with_reducible exact B2 | (go_grown; done) | with_reducible exact bdrewN B2 _ | (go_grown <;> first | with_reducible exact bdrewN B2 _ | with_reducible exact B2))⟩
  · have hok : ratOk a b = false := by simpa using hok
    have e1 : ratN a b = 0 := by unfold ratN; rw [if_neg (by simp [hok])]
    have e2 : ratD a b = 0 := by unfold ratD; rw [if_neg (by simp [hok])]
    have e3 : ratC a b 2 = 2 := by unfold ratC; rw [if_neg (by simp [hok])]
    unfold ratOk at hok
    rw [hr] at hok
    have E1 := Lib.hid e1; have E2 := Lib.hid e2; have E3 := Lib.hid e3; have NA := Lib.hid na; clear e1 e2 e3 hr hd hg na
    by_cases ha : 0 ≤ a
    all_goals
      go_enter Try.func68, Try.ntmps68
      go_wp2_with fail
      refine (l01Divisor_any _ _ _ h1 h2 (by omega) (by omega)).mono ?_
      rw [← HG.out]
      rintro e w1 ⟨rfl, hb1⟩; obtain ⟨B1, hz1, q1, s1, t1, x1, y1, z1⟩ := bkeep (w := w) [w.heap.size] (by first | (simp; done) | (simp; omega)) (by first | (go_grown; done) | exact bdrewN (by go_grown) _) hb1; (try simp at hz1); clear hb1
      go_wp2_with fail
      go_region
      go_wp2_with fail
      (try simp only [NA.out])
      (refine (specIsRatio_any (a / g) (b / g) _ m1 m2 n1 (by omega) ONE.out).mono ?_; rintro e w2 ⟨rfl, hb2⟩; obtain ⟨B2, hz2, q2, s2, t2, x2, y2, z2⟩ := bkeep (w := w) [w.heap.size, w1.heap.size] (by first | (simp; done) | (simp; omega)) (by first | (go_grown; done) | exact bdrewN (by go_grown) _) hb2; (try simp at hz2); clear hb2)
      have c0 : w2.cell? ⟨w.heap.size, 0, none⟩ = some (.int .i64 0) := by simp [*, go_sem]
      have c1 : w2.cell? ⟨w.heap.size, 1, none⟩ = some (.int .i64 0) := by simp [*, go_sem]
      have d0 : w2.cell? ⟨w1.heap.size, 0, none⟩ = some (.int .i64 (a / g)) := by simp [*, go_sem]
      have d1 : w2.cell? ⟨w1.heap.size, 1, none⟩ = some (.int .i64 (b / g)) := by simp [*, go_sem]
      have f0 : w2.frozen? ⟨w.heap.size, 0, none⟩ = false := by simp [*, go_sem]
      have f1 : w2.frozen? ⟨w.heap.size, 1, none⟩ = false := by simp [*, go_sem]
      clear q1 q2 s1 s2
      go_wp2
      refine bodyPost_ret (by simp [results, Try.results68, go_sem, *] <;> rfl) rfl ?_
      exact ⟨by rw [E1.out, E2.out, E3.out], (by first | with_reducible exact B2 | (go_grown; done) | with_reducible exact bdrewN B2 _ | (go_grown <;> first | with_reducible exact bdrewN B2 _ | with_reducible exact B2))⟩
end Go.Proofs.Ytjabldjffpjkeaa
