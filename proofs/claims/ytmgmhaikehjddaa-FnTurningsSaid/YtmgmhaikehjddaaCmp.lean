/- Directions compared, by the program. -/
import Derived.Test.YtmgmhaikehjddaaRay
namespace Go.Proofs.Ytmgmhaikehjddaa
set_option linter.unusedSimpArgs false
set_option linter.unusedVariables false
open Go.RowKit

/-- -1, 0 or 1 -/
@[irreducible] def sgnI (x : Int) : Int := if 0 < x then 1 else if x < 0 then -1 else 0
theorem sgn_pos {x : Int} (h : 0 < x) : sgnI x = 1 := by unfold sgnI; simp [h]
theorem sgn_neg {x : Int} (h : x < 0) : sgnI x = -1 := by unfold sgnI; rw [if_neg (by omega), if_pos h]
theorem sgn_zero : sgnI 0 = 0 := by unfold sgnI; simp
@[irreducible] def cmpC (a b c d e f : Int) : Int := if dirB a b c && dirB d e f then 0 else 1
@[irreducible] def cmpV (a b c d e f : Int) : Int := if dirB a b c && dirB d e f then sgnI (a * f - d * c) else 0
theorem cmp_ok {a b c d e f : Int} (h1 : dirB a b c = true) (h2 : dirB d e f = true) : cmpC a b c d e f = 0 ∧ cmpV a b c d e f = sgnI (a * f - d * c) := by unfold cmpC cmpV; simp [h1, h2]
theorem cmp_bad1 {a b c d e f : Int} (h1 : dirB a b c = false) : cmpC a b c d e f = 1 ∧ cmpV a b c d e f = 0 := by unfold cmpC cmpV; simp [h1]
theorem cmp_bad2 {a b c d e f : Int} (h2 : dirB d e f = false) : cmpC a b c d e f = 1 ∧ cmpV a b c d e f = 0 := by unfold cmpC cmpV; simp [h2]

set_option maxHeartbeats 400000 in
theorem sign_any (x : Int) (w : World) :
    Calls Try.prog 195 #[.int .i64 x] w fun e w' => e = .returned (.int .i64 (sgnI x)) ∧ w = w' := by
  rcases Int.lt_trichotomy x 0 with h | h | h
  · have e := sgn_neg h
    have h1 : x ≤ -1 := by omega
    go_enter Try.func195, Try.ntmps195
    go_wp2
    all_goals (go_ret; exact ⟨ret_int (by rw [e]), rfl⟩)
  · subst h
    have e := sgn_zero
    go_enter Try.func195, Try.ntmps195
    go_wp2
    all_goals (go_ret; exact ⟨ret_int (by rw [e]), rfl⟩)
  · have e := sgn_pos h
    have h1 : 1 ≤ x := by omega
    go_enter Try.func195, Try.ntmps195
    go_wp2
    all_goals (go_ret; exact ⟨ret_int (by rw [e]), rfl⟩)
set_option maxHeartbeats 1000000 in
theorem cmpDirs_any (a b c d e f : Int) (w : World) (h1 : dirB a b c = true) (h2 : dirB d e f = true) :
    Calls Try.prog 119 #[dirV a b c, dirV d e f] w fun e_ w' => e_ = .returned (.int .i64 (sgnI (a * f - d * c))) ∧ Below w.heap.size w w' := by
  obtain ⟨c0, c1, a0, a1⟩ := dir_ok h1
  obtain ⟨f0, f1, d0, d1⟩ := dir_ok h2
  have m1 := Int.mul_le_mul (show a ≤ 1000 by omega) f1 (by omega) (by omega)
  have m2 := Int.mul_le_mul (show d ≤ 1000 by omega) c1 (by omega) (by omega)
  have m3 := Int.mul_nonneg (show 0 ≤ a by omega) (show 0 ≤ f by omega)
  have m4 := Int.mul_nonneg (show 0 ≤ d by omega) (show 0 ≤ c by omega)
  go_enter Try.func119, Try.ntmps119
  go_wp2_with (go_at_call 195; refine (sign_any _ _).mono ?_; rintro e w' ⟨rfl, rfl⟩)
  go_ret
  exact ⟨rfl, by go_grown⟩
set_option maxHeartbeats 1000000 in
theorem implCompare_any (a b c d e f : Int) (w : World) :
    Calls Try.prog 36 #[dirV a b c, dirV d e f] w fun e_ w' => e_ = .returned (.tuple #[.int .i64 (cmpV a b c d e f), .int .i64 (cmpC a b c d e f)]) ∧ Below w.heap.size w w' := by
  rcases Bool.eq_false_or_eq_true (dirB a b c) with h1 | h1
  · rcases Bool.eq_false_or_eq_true (dirB d e f) with h2 | h2
    · obtain ⟨k1, k2⟩ := cmp_ok h1 h2
      have H1 := Lib.hid h1; have H2 := Lib.hid h2
      go_enter Try.func36, Try.ntmps36
      go_wp2_with fail
      (refine (implIsDirection_any _ _ _ _).mono ?_; rintro e w1 ⟨rfl, hb1⟩; obtain ⟨B1, hz1, q1, s1, t1, x1, y1, z1⟩ := bkeep (w := w) [w.heap.size, w.heap.size + 1] (by first | (simp; done) | (simp; omega)) (by first | (go_grown; done) | exact bdrewN (by go_grown) _) hb1; (try simp at hz1); clear hb1)
      go_wp2_with fail
      (refine (implIsDirection_any _ _ _ _).mono ?_; rintro e w2 ⟨rfl, hb2⟩; obtain ⟨B2, hz2, q2, s2, t2, x2, y2, z2⟩ := bkeep (w := w) [w.heap.size, w.heap.size + 1] (by first | (simp; done) | (simp; omega)) (by first | (go_grown; done) | exact bdrewN (by go_grown) _) hb2; (try simp at hz2); clear hb2)
      go_wp2_with fail
      (refine (cmpDirs_any _ _ _ _ _ _ _ H1.out H2.out).mono ?_; rintro e w3 ⟨rfl, hb3⟩; obtain ⟨B3, hz3, q3, s3, t3, x3, y3, z3⟩ := bkeep (w := w) [w.heap.size, w.heap.size + 1] (by first | (simp; done) | (simp; omega)) (by first | (go_grown; done) | exact bdrewN (by go_grown) _) hb3; (try simp at hz3); clear hb3)
      go_wp2
      go_ret2
      exact ⟨by rw [k1, k2]; rfl, (by first | with_reducible exact B3 | (go_grown; done) | with_reducible exact bdrewN B3 _ | (go_grown <;> first | with_reducible exact bdrewN B3 _ | with_reducible exact B3))⟩
    · obtain ⟨k1, k2⟩ := cmp_bad2 (a := a) (b := b) (c := c) h2
      go_enter Try.func36, Try.ntmps36
      go_wp2_with fail
      (refine (implIsDirection_any _ _ _ _).mono ?_; rintro e w1 ⟨rfl, hb1⟩; obtain ⟨B1, hz1, q1, s1, t1, x1, y1, z1⟩ := bkeep (w := w) [w.heap.size, w.heap.size + 1] (by first | (simp; done) | (simp; omega)) (by first | (go_grown; done) | exact bdrewN (by go_grown) _) hb1; (try simp at hz1); clear hb1)
      go_wp2_with fail
      (refine (implIsDirection_any _ _ _ _).mono ?_; rintro e w2 ⟨rfl, hb2⟩; obtain ⟨B2, hz2, q2, s2, t2, x2, y2, z2⟩ := bkeep (w := w) [w.heap.size, w.heap.size + 1] (by first | (simp; done) | (simp; omega)) (by first | (go_grown; done) | exact bdrewN (by go_grown) _) hb2; (try simp at hz2); clear hb2)
      go_wp2
      go_ret2
      exact ⟨by rw [k1, k2]; rfl, (by first | with_reducible exact B2 | (go_grown; done) | with_reducible exact bdrewN B2 _ | (go_grown <;> first | with_reducible exact bdrewN B2 _ | with_reducible exact B2))⟩
  · obtain ⟨k1, k2⟩ := cmp_bad1 (d := d) (e := e) (f := f) h1
    go_enter Try.func36, Try.ntmps36
    go_wp2_with fail
    (refine (implIsDirection_any _ _ _ _).mono ?_; rintro e w1 ⟨rfl, hb1⟩; obtain ⟨B1, hz1, q1, s1, t1, x1, y1, z1⟩ := bkeep (w := w) [w.heap.size, w.heap.size + 1] (by first | (simp; done) | (simp; omega)) (by first | (go_grown; done) | exact bdrewN (by go_grown) _) hb1; (try simp at hz1); clear hb1)
    go_wp2
    go_ret2
    exact ⟨by rw [k1, k2]; rfl, (by first | with_reducible exact B1 | (go_grown; done) | with_reducible exact bdrewN B1 _ | (go_grown <;> first | with_reducible exact bdrewN B1 _ | with_reducible exact B1))⟩
end Go.Proofs.Ytmgmhaikehjddaa
