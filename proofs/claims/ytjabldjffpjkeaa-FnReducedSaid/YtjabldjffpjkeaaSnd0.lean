/- One sounding: its bounds; the law on DepthBounds. -/
import Derived.Test.YtjabldjffpjkeaaW2
namespace Go.Proofs.Ytjabldjffpjkeaa
set_option linter.unusedSimpArgs false
set_option linter.unusedVariables false
open Go.RowKit

abbrev sndV (a b c d : Int) : Value := .agg #[.int .i64 a, .int .i64 b, .int .i64 c, .int .i64 d]
@[go_sem] theorem sndV_def (a b c d : Int) : sndV a b c d = .agg #[.int .i64 a, .int .i64 b, .int .i64 c, .int .i64 d] := rfl


def sndB (a b c d : Int) : Bool := inB a 0 10000 && inB b 0 10000 && inB c (-2000) 1000000 && inB d 0 5000

set_option maxHeartbeats 400000 in
theorem l21Is_any (a b c d : Int) (w : World) :
    Calls Try.prog 39 #[sndV a b c d] w fun e w' => e = .returned (.bool (sndB a b c d)) ∧ Below w.heap.size w w' := by
  go_enter Try.func39, Try.ntmps39
  go_wp2_with (go_at_call 56; refine (l01In_any _ _ _ _).mono ?_; rintro e w' ⟨rfl, rfl⟩)
  all_goals (go_returns; exact ⟨by simp [sndB, *], by go_grown⟩)

set_option maxHeartbeats 400000 in
theorem l21Bounds_any (a b c d : Int) (w : World) (hc : -2000 ≤ c) (hc2 : c ≤ 1000000) (hd : 0 ≤ d) (hd2 : d ≤ 5000) :
    Calls Try.prog 40 #[sndV a b c d] w fun e w' => e = .returned (ivV (c - d) (c + d)) ∧ Below w.heap.size w w' := by
  go_enter Try.func40, Try.ntmps40
  go_wp2
  go_returns
  exact ⟨rfl, by go_grown⟩

set_option maxHeartbeats 400000 in
theorem bounds_any (a b c d : Int) (w : World) (hc : -2000 ≤ c) (hc2 : c ≤ 1000000) (hd : 0 ≤ d) (hd2 : d ≤ 5000) :
    Calls Try.prog 36 #[sndV a b c d] w fun e w' => e = .returned (ivV (c - d) (c + d)) ∧ Below w.heap.size w w' := by
  go_enter Try.func36, Try.ntmps36
  go_wp2
  go_returns
  exact ⟨rfl, by go_grown⟩

theorem sndB_bd {a b c d : Int} (h : sndB a b c d = true) : -2000 ≤ c ∧ c ≤ 1000000 ∧ 0 ≤ d ∧ d ≤ 5000 := by
  simp [sndB, inB] at h; omega

def depthBoundsL (a b c d : Int) : Int := if sndB a b c d then c - d else 0
def depthBoundsH (a b c d : Int) : Int := if sndB a b c d then c + d else 0
def depthBoundsE (a b c d : Int) : Int := if sndB a b c d then 0 else 1

set_option maxHeartbeats 400000 in
theorem specDepthBounds_any (a b c d : Int) (w : World) :
    Calls Try.prog 12 #[sndV a b c d] w fun e w' => e = .returned (.tuple #[ivV (depthBoundsL a b c d) (depthBoundsH a b c d), .int .i64 (depthBoundsE a b c d)]) ∧ Below w.heap.size w w' := by
  by_cases h : sndB a b c d = true
  · obtain ⟨h1, h2, h3, h4⟩ := sndB_bd h
    go_enter Try.func12, Try.ntmps12
    go_wp2_with (first
      | (go_at_call 39; refine (l21Is_any _ _ _ _ _).mono ?_; rintro e w1 ⟨rfl, hb1⟩; obtain ⟨B1, hz1, q1, s1, t1, x1, y1, z1⟩ := bkeep (w := w) [w.heap.size, w.heap.size + 1] (by first | (simp; done) | (simp; omega)) (by first | (go_grown; done) | exact bdrewN (by go_grown) _) hb1; (try simp at hz1); clear hb1)
      | (go_at_call 40; refine (l21Bounds_any _ _ _ _ _ h1 h2 h3 h4).mono ?_; rintro e w2 ⟨rfl, hb2⟩; obtain ⟨B2, hz2, q2, s2, t2, x2, y2, z2⟩ := bkeep (w := w) [w.heap.size, w.heap.size + 1] (by first | (simp; done) | (simp; omega)) (by first | (go_grown; done) | exact bdrewN (by go_grown) _) hb2; (try simp at hz2); clear hb2))
    refine bodyPost_ret (by simp [results, Try.results12, go_sem, *] <;> rfl) rfl ?_
    exact ⟨by simp [depthBoundsL, depthBoundsH, depthBoundsE, h], by go_grown⟩
  · go_enter Try.func12, Try.ntmps12
    go_wp2_with (go_at_call 39; refine (l21Is_any _ _ _ _ _).mono ?_; rintro e w1 ⟨rfl, hb1⟩; obtain ⟨B1, hz1, q1, s1, t1, x1, y1, z1⟩ := bkeep (w := w) [w.heap.size, w.heap.size + 1] (by first | (simp; done) | (simp; omega)) (by first | (go_grown; done) | exact bdrewN (by go_grown) _) hb1; (try simp at hz1); clear hb1)
    refine bodyPost_ret (by simp [results, Try.results12, go_sem, *] <;> rfl) rfl ?_
    exact ⟨by simp [depthBoundsL, depthBoundsH, depthBoundsE, h], by go_grown⟩

set_option maxHeartbeats 400000 in
theorem isField_any (A : Option Addr) (c : Nat) (xs : List Int) (w : World) (hx : IntsAt w A c xs) :
    Calls Try.prog 61 #[.slice A xs.length c] w fun e w' => e = .returned (.bool (xs.all (inB · 0 10000))) ∧ w = w' := by
  go_enter Try.func61, Try.ntmps61
  go_wp2_with (go_at_call 54; refine (areWithin_any _ _ _ _ _ _ hx).mono ?_; rintro e w' ⟨rfl, rfl⟩)
  go_ret
  exact ⟨rfl, rfl⟩

set_option maxHeartbeats 400000 in
theorem isSounding_any (a b c d : Int) (w : World) :
    Calls Try.prog 34 #[sndV a b c d] w fun e w' => e = .returned (.bool (sndB a b c d)) ∧ Below w.heap.size w w' := by
  go_enter Try.func34, Try.ntmps34
  go_wp2_with (first
    | (go_at_call 51; refine (within_any _ _ _ _).mono ?_; rintro e w' ⟨rfl, rfl⟩)
    | (go_at_call 61; refine (isField_any _ _ [a, b] _ ⟨by simp, by simp, .inr ⟨_, _, rfl, by simp, fun i x hx => by rcases i with _ | _ | i <;> simp at hx <;> subst hx <;> simp⟩⟩).mono ?_; rintro e w' ⟨rfl, rfl⟩))
  all_goals (go_returns; exact ⟨ret_bool (by simp_all [sndB]), by go_grown⟩)

set_option maxHeartbeats 400000 in
theorem implDepthBounds_any (a b c d : Int) (w : World) :
    Calls Try.prog 11 #[sndV a b c d] w fun e w' => e = .returned (.tuple #[ivV (depthBoundsL a b c d) (depthBoundsH a b c d), .int .i64 (depthBoundsE a b c d)]) ∧ Below w.heap.size w w' := by
  by_cases h : sndB a b c d = true
  · obtain ⟨h1, h2, h3, h4⟩ := sndB_bd h
    go_enter Try.func11, Try.ntmps11
    go_wp2_with (first
      | (go_at_call 34; refine (isSounding_any _ _ _ _ _).mono ?_; rintro e w1 ⟨rfl, hb1⟩; obtain ⟨B1, hz1, q1, s1, t1, x1, y1, z1⟩ := bkeep (w := w) [w.heap.size, w.heap.size + 1] (by first | (simp; done) | (simp; omega)) (by first | (go_grown; done) | exact bdrewN (by go_grown) _) hb1; (try simp at hz1); clear hb1)
      | (go_at_call 36; refine (bounds_any _ _ _ _ _ h1 h2 h3 h4).mono ?_; rintro e w2 ⟨rfl, hb2⟩; obtain ⟨B2, hz2, q2, s2, t2, x2, y2, z2⟩ := bkeep (w := w) [w.heap.size, w.heap.size + 1] (by first | (simp; done) | (simp; omega)) (by first | (go_grown; done) | exact bdrewN (by go_grown) _) hb2; (try simp at hz2); clear hb2))
    refine bodyPost_ret (by simp [results, Try.results11, go_sem, *] <;> rfl) rfl ?_
    exact ⟨by simp [depthBoundsL, depthBoundsH, depthBoundsE, h], by go_grown⟩
  · go_enter Try.func11, Try.ntmps11
    go_wp2_with (go_at_call 34; refine (isSounding_any _ _ _ _ _).mono ?_; rintro e w1 ⟨rfl, hb1⟩; obtain ⟨B1, hz1, q1, s1, t1, x1, y1, z1⟩ := bkeep (w := w) [w.heap.size, w.heap.size + 1] (by first | (simp; done) | (simp; omega)) (by first | (go_grown; done) | exact bdrewN (by go_grown) _) hb1; (try simp at hz1); clear hb1)
    refine bodyPost_ret (by simp [results, Try.results11, go_sem, *] <;> rfl) rfl ?_
    exact ⟨by simp [depthBoundsL, depthBoundsH, depthBoundsE, h], by go_grown⟩

end Go.Proofs.Ytjabldjffpjkeaa
