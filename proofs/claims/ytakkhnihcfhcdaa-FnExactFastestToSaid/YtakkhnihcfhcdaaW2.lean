/- Lists of numbers: what reads as a list; the loops that only read. -/
import Derived.Test.YtakkhnihcfhcdaaW1
namespace Go.Proofs.Ytakkhnihcfhcdaa
set_option linter.unusedSimpArgs false
set_option linter.unusedVariables false
open Go.RowKit

/-- the slice with address A and capacity c reads as the list xs -/
def IntsAt (w : World) (A : Option Addr) (c : Nat) (xs : List Int) : Prop :=
  xs.length ≤ c ∧ c ≤ 9223372036854775807 ∧ (xs = [] ∨ ∃ b off, A = some ⟨b, off, none⟩ ∧ b < w.heap.size ∧ ∀ i x, xs[i]? = some x → w.cell? ⟨b, off + i, none⟩ = some (.int .i64 x))

theorem IntsAt.at_ {w : World} {A : Option Addr} {c k : Nat} {xs : List Int} (h : IntsAt w A c xs) (hk : k < xs.length) :
    ∃ b off x, A = some ⟨b, off, none⟩ ∧ b < w.heap.size ∧ xs[k]? = some x ∧ w.cell? ⟨b, off + k, none⟩ = some (.int .i64 x) := by
  rcases h.2.2 with rfl | ⟨b, off, rfl, hb, hc⟩
  · exact absurd hk (by simp)
  · exact ⟨b, off, xs[k], rfl, hb, List.getElem?_eq_getElem hk, hc _ _ (List.getElem?_eq_getElem hk)⟩

theorem IntsAt.below {w w1 : World} {B : Nat} {A : Option Addr} {c : Nat} {xs : List Int} (h : IntsAt w A c xs) (hb : Below B w w1) (hB : w.heap.size ≤ B) : IntsAt w1 A c xs := by
  refine ⟨h.1, h.2.1, ?_⟩
  rcases h.2.2 with rfl | ⟨b, off, rfl, hb1, hc⟩
  · exact .inl rfl
  · have := hb.size
    exact .inr ⟨b, off, rfl, by omega, fun i x hx => (hb.cell (p := ⟨b, off + i, none⟩) (by show b < B; omega)).trans (hc i x hx)⟩

theorem len_of {xs : List Int} {k : Nat} {x : Int} (h : xs[k]? = some x) : k < xs.length := (List.getElem?_eq_some_iff.1 h).1

theorem all_stop {p : Int → Bool} {xs : List Int} {k : Nat} {x : Int} (h : xs[k]? = some x) (hp : p x = false) : xs.all p = false := by
  rw [List.all_eq_false]; exact ⟨x, List.mem_of_getElem? h, by simp [hp]⟩
theorem all_step {p : Int → Bool} {xs : List Int} {k : Nat} {x : Int} (h : xs[k]? = some x) (ha : (xs.take k).all p = true) (hp : p x = true) : (xs.take (k + 1)).all p = true := by
  rw [List.take_add_one, h]; simp_all
theorem all_done {p : Int → Bool} {xs : List Int} {k : Nat} (ha : (xs.take k).all p = true) (hk : ¬ k < xs.length) : xs.all p = true := by
  rwa [List.take_of_length_le (by omega)] at ha

set_option maxHeartbeats 400000 in
theorem areWithin_any (A : Option Addr) (c : Nat) (xs : List Int) (lo hi : Int) (w : World) (hx : IntsAt w A c xs) :
    Calls Try.prog 67 #[.slice A xs.length c, .int .i64 lo, .int .i64 hi] w fun e w' => e = .returned (.bool (xs.all (inB · lo hi))) ∧ w = w' := by
  have hn := Nat.le_trans hx.1 hx.2.1
  have HX := Lib.hid hx; clear hx
  go_enter Try.func67, Try.ntmps67
  go_wp2
  go_loop [11] (fun i => ∃ k : Nat, k ≤ xs.length ∧ i = .int .i64 k ∧ (xs.take k).all (inB · lo hi) = true) (fun i => xs.length - (intOf i).toNat)
  case atStart => exact ⟨0, by omega, rfl, by simp⟩
  case round =>
    obtain ⟨k, hk, rfl, ha⟩ := hrel
    have HA := Lib.hid ha; clear ha
    by_cases hlt : k < xs.length
    · obtain ⟨b, off, x, rfl, hb, hxk, hc⟩ := HX.out.at_ hlt
      have HK := Lib.hid hxk; clear hxk
      by_cases hin : inB x lo hi = true
      · go_wp2_with (go_at_call 53; refine (within_any _ _ _ _).mono ?_; rintro e w' ⟨rfl, rfl⟩)
        go_round
        case rel => exact ⟨k + 1, by omega, by go_num, all_step HK.out HA.out hin⟩
        case measure => simp [intOf]; omega
      · go_wp2_with (go_at_call 53; refine (within_any _ _ _ _).mono ?_; rintro e w' ⟨rfl, rfl⟩)
        go_ret
        exact ⟨ret_bool (all_stop HK.out (by simpa using hin)).symm, rfl⟩
    · go_wp2
      go_ret
      exact ⟨ret_bool (all_done HA.out hlt).symm, rfl⟩

set_option maxHeartbeats 400000 in
theorem isField_any (A : Option Addr) (c : Nat) (xs : List Int) (w : World) (hx : IntsAt w A c xs) :
    Calls Try.prog 56 #[.slice A xs.length c] w fun e w' => e = .returned (.bool (xs.all (inB · 0 10000))) ∧ w = w' := by
  go_enter Try.func56, Try.ntmps56
  go_wp2_with (go_at_call 67; refine (areWithin_any _ _ _ _ _ _ hx).mono ?_; rintro e w' ⟨rfl, rfl⟩)
  go_ret
  exact ⟨rfl, rfl⟩

set_option maxHeartbeats 400000 in
theorem isSounding_any (a b c d : Int) (w : World) :
    Calls Try.prog 40 #[sndV a b c d] w fun e w' => e = .returned (.bool (sndB a b c d)) ∧ Below w.heap.size w w' := by
  go_enter Try.func40, Try.ntmps40
  go_wp2_with (first
    | (go_at_call 53; refine (within_any _ _ _ _).mono ?_; rintro e w' ⟨rfl, rfl⟩)
    | (go_at_call 56; refine (isField_any _ _ [a, b] _ ⟨by simp, by simp, .inr ⟨_, _, rfl, by simp, fun i x hx => by rcases i with _ | _ | i <;> simp at hx <;> subst hx <;> simp⟩⟩).mono ?_; rintro e w' ⟨rfl, rfl⟩))
  all_goals (go_returns; exact ⟨ret_bool (by simp_all [sndB]), by go_grown⟩)

set_option maxHeartbeats 400000 in
theorem implDepthBounds_any (a b c d : Int) (w : World) :
    Calls Try.prog 11 #[sndV a b c d] w fun e w' => e = .returned (.tuple #[ivV (depthBoundsL a b c d) (depthBoundsH a b c d), .int .i64 (depthBoundsE a b c d)]) ∧ Below w.heap.size w w' := by
  by_cases h : sndB a b c d = true
  · obtain ⟨h1, h2, h3, h4⟩ := sndB_bd h
    go_enter Try.func11, Try.ntmps11
    go_wp2_with (first
      | (go_at_call 40; refine (isSounding_any _ _ _ _ _).mono ?_; rintro e w1 ⟨rfl, hb1⟩; obtain ⟨B1, hz1, q1, s1, t1, x1, y1, z1⟩ := bkeep (w := w) [w.heap.size, w.heap.size + 1] (by first | (simp; done) | (simp; omega)) (by first | (go_grown; done) | exact bdrewN (by go_grown) _) hb1; (try simp at hz1); clear hb1)
      | (go_at_call 41; refine (bounds_any _ _ _ _ _ h1 h2 h3 h4).mono ?_; rintro e w2 ⟨rfl, hb2⟩; obtain ⟨B2, hz2, q2, s2, t2, x2, y2, z2⟩ := bkeep (w := w) [w.heap.size, w.heap.size + 1] (by first | (simp; done) | (simp; omega)) (by first | (go_grown; done) | exact bdrewN (by go_grown) _) hb2; (try simp at hz2); clear hb2))
    refine bodyPost_ret (by simp [results, Try.results11, go_sem, *] <;> rfl) rfl ?_
    exact ⟨by simp [depthBoundsL, depthBoundsH, depthBoundsE, h], by go_grown⟩
  · go_enter Try.func11, Try.ntmps11
    go_wp2_with (go_at_call 40; refine (isSounding_any _ _ _ _ _).mono ?_; rintro e w1 ⟨rfl, hb1⟩; obtain ⟨B1, hz1, q1, s1, t1, x1, y1, z1⟩ := bkeep (w := w) [w.heap.size, w.heap.size + 1] (by first | (simp; done) | (simp; omega)) (by first | (go_grown; done) | exact bdrewN (by go_grown) _) hb1; (try simp at hz1); clear hb1)
    refine bodyPost_ret (by simp [results, Try.results11, go_sem, *] <;> rfl) rfl ?_
    exact ⟨by simp [depthBoundsL, depthBoundsH, depthBoundsE, h], by go_grown⟩

set_option maxHeartbeats 400000 in
theorem lawDepthBounds_any (a b c d : Int) (w : World) :
    Calls Try.prog 3 #[sndV a b c d] w fun e w' => e = .returned (.bool true) ∧ Below w.heap.size w w' := by
  go_enter Try.func3, Try.ntmps3
  go_wp2_with fail
  (refine (toSounding_any _ _ _ _ _).mono ?_; rintro e w1 ⟨rfl, hb1⟩; obtain ⟨B1, hz1, q1, s1, t1, x1, y1, z1⟩ := bkeep (w := w) [w.heap.size] (by first | (simp; done) | (simp; omega)) (by first | (go_grown; done) | exact bdrewN (by go_grown) _) hb1; (try simp at hz1); clear hb1)
  go_wp2_with fail
  (refine (specDepthBounds_any _ _ _ _ _).mono ?_; rintro e w2 ⟨rfl, hb2⟩; obtain ⟨B2, hz2, q2, s2, t2, x2, y2, z2⟩ := bkeep (w := w) [w.heap.size] (by first | (simp; done) | (simp; omega)) (by first | (go_grown; done) | exact bdrewN (by go_grown) _) hb2; (try simp at hz2); clear hb2)
  go_wp2_with fail
  (refine (toSounding_any _ _ _ _ _).mono ?_; rintro e w3 ⟨rfl, hb3⟩; obtain ⟨B3, hz3, q3, s3, t3, x3, y3, z3⟩ := bkeep (w := w) [w.heap.size, w2.heap.size] (by first | (simp; done) | (simp; omega)) (by first | (go_grown; done) | exact bdrewN (by go_grown) _) hb3; (try simp at hz3); clear hb3)
  go_wp2_with fail
  (refine (implDepthBounds_any _ _ _ _ _).mono ?_; rintro e w4 ⟨rfl, hb4⟩; obtain ⟨B4, hz4, q4, s4, t4, x4, y4, z4⟩ := bkeep (w := w) [w.heap.size, w2.heap.size] (by first | (simp; done) | (simp; omega)) (by first | (go_grown; done) | exact bdrewN (by go_grown) _) hb4; (try simp at hz4); clear hb4)
  go_wp2_with fail
  (refine (eqInterval_any _ _ _ _ _).mono ?_; rintro e w5 ⟨rfl, hb5⟩; obtain ⟨B5, hz5, q5, s5, t5, x5, y5, z5⟩ := bkeep (w := w) [w.heap.size, w2.heap.size, w4.heap.size] (by first | (simp; done) | (simp; omega)) (by first | (go_grown; done) | exact bdrewN (by go_grown) _) hb5; (try simp at hz5); clear hb5)
  go_wp2
  go_ret
  exact ⟨rfl, by go_grown⟩
end Go.Proofs.Ytakkhnihcfhcdaa