/- What is reckoned of an arc: rise, thickness; limits; by the program and by the reference. -/
import Derived.Test.YtopggkomkfjbfaaGreatVerd
namespace Go.Proofs.YtopggkomkfjbfaaGreat
set_option linter.unusedSimpArgs false
set_option linter.unusedVariables false
open Go.RowKit

/-! limits -/
def isB (lo hi : Int) : Bool := isV lo && isV hi
@[irreducible] def limLo (lo hi : Int) : Int := if isB lo hi then lo else 0
@[irreducible] def limHi (lo hi : Int) : Int := if isB lo hi then hi else 0
@[irreducible] def limC (lo hi c : Int) : Int := if isB lo hi then 0 else c
theorem lim_yes {lo hi c : Int} (h : isB lo hi = true) : limLo lo hi = lo ∧ limHi lo hi = hi ∧ limC lo hi c = 0 := by unfold limLo limHi limC; simp [h]
theorem lim_no {lo hi c : Int} (h : isB lo hi = false) : limLo lo hi = 0 ∧ limHi lo hi = 0 ∧ limC lo hi c = c := by unfold limLo limHi limC; simp [h]
set_option maxHeartbeats 1000000 in
theorem areBounds_any (a b : Int) (w : World) :
    Calls Tryz.prog 66 #[ivV a b] w fun e w' => e = .returned (.bool (isB a b)) ∧ Below w.heap.size w w' := by
  rcases Bool.eq_false_or_eq_true (isV a) with h1 | h1 <;> rcases Bool.eq_false_or_eq_true (isV b) with h2 | h2
  all_goals
    go_enter Tryz.func66, Tryz.ntmps66
    go_wp2_with (go_at_call 80; refine (isValue_any _ _).mono ?_; rintro e w' ⟨rfl, rfl⟩)
    go_ret
    exact ⟨ret_bool (by simp [isB, h1, h2]), by go_grown⟩
set_option maxHeartbeats 1000000 in
theorem checked_any (lo hi c : Int) (w : World) :
    Calls Tryz.prog 45 #[ivV lo hi, .int .i64 c] w fun e w' => e = .returned (.tuple #[ivV (limLo lo hi) (limHi lo hi), .int .i64 (limC lo hi c)]) ∧ Below w.heap.size w w' := by
  rcases Bool.eq_false_or_eq_true (isB lo hi) with h1 | h1
  · obtain ⟨e1, e2, e3⟩ := lim_yes (c := c) h1
    have E1 := Lib.hid e1; have E2 := Lib.hid e2; have E3 := Lib.hid e3; clear e1 e2 e3
    go_enter Tryz.func45, Tryz.ntmps45
    go_wp2_with (go_at_call 66; refine (areBounds_any _ _ _).mono ?_; rintro e w1 ⟨rfl, hb1⟩; obtain ⟨B1, hz1, q1, s1, t1, x1, y1, z1⟩ := bkeep (w := w) [w.heap.size, w.heap.size + 1] (by first | (simp; done) | (simp; omega)) (by first | (go_grown; done) | exact bdrewN (by go_grown) _) hb1; (try simp at hz1); clear hb1)
    have d0 : w1.cell? ⟨w.heap.size + 1, 0, none⟩ = some (.int .i64 0) := by simp [*, go_sem]
    have d1 : w1.cell? ⟨w.heap.size + 1, 1, none⟩ = some (.int .i64 0) := by simp [*, go_sem]
    clear q1
    refine bodyPost_ret (by simp [results, Tryz.results45, go_sem, *] <;> rfl) rfl ?_
    exact ⟨by rw [E1.out, E2.out, E3.out], (by first | with_reducible exact B1 | (go_grown; done) | with_reducible exact bdrewN B1 _ | (go_grown <;> first | with_reducible exact bdrewN B1 _ | with_reducible exact B1))⟩
  · obtain ⟨e1, e2, e3⟩ := lim_no (c := c) h1
    have E1 := Lib.hid e1; have E2 := Lib.hid e2; have E3 := Lib.hid e3; clear e1 e2 e3
    go_enter Tryz.func45, Tryz.ntmps45
    go_wp2_with (go_at_call 66; refine (areBounds_any _ _ _).mono ?_; rintro e w1 ⟨rfl, hb1⟩; obtain ⟨B1, hz1, q1, s1, t1, x1, y1, z1⟩ := bkeep (w := w) [w.heap.size, w.heap.size + 1] (by first | (simp; done) | (simp; omega)) (by first | (go_grown; done) | exact bdrewN (by go_grown) _) hb1; (try simp at hz1); clear hb1)
    have d0 : w1.cell? ⟨w.heap.size + 1, 0, none⟩ = some (.int .i64 0) := by simp [*, go_sem]
    have d1 : w1.cell? ⟨w.heap.size + 1, 1, none⟩ = some (.int .i64 0) := by simp [*, go_sem]
    clear q1
    refine bodyPost_ret (by simp [results, Tryz.results45, go_sem, *] <;> rfl) rfl ?_
    exact ⟨by rw [E1.out, E2.out, E3.out], (by first | with_reducible exact B1 | (go_grown; done) | with_reducible exact bdrewN B1 _ | (go_grown <;> first | with_reducible exact bdrewN B1 _ | with_reducible exact B1))⟩
set_option maxHeartbeats 1000000 in
theorem l06Limit_any (lo hi : Int) (w : World) :
    Calls Tryz.prog 73 #[.int .i64 lo, .int .i64 hi] w fun e w' => e = .returned (.tuple #[ivV (limLo lo hi) (limHi lo hi), .int .i64 (limC lo hi 3)]) ∧ Below w.heap.size w w' := by
  rcases Bool.eq_false_or_eq_true (isV lo) with h1 | h1 <;> rcases Bool.eq_false_or_eq_true (isV hi) with h2 | h2
  all_goals
    have hb : isB lo hi = (isV lo && isV hi) := rfl
    rw [h1, h2] at hb
    first
      | obtain ⟨e1, e2, e3⟩ := lim_yes (c := 3) hb
      | obtain ⟨e1, e2, e3⟩ := lim_no (c := 3) hb
    have E1 := Lib.hid e1; have E2 := Lib.hid e2; have E3 := Lib.hid e3; clear e1 e2 e3 hb
    go_enter Tryz.func73, Tryz.ntmps73
    go_wp2_with (go_at_call 84; refine (l01Is_any _ _).mono ?_; rintro e w' ⟨rfl, rfl⟩)
    refine bodyPost_ret (by simp [results, Tryz.results73, go_sem, *] <;> rfl) rfl ?_
    exact ⟨by rw [E1.out, E2.out, E3.out], by go_grown⟩

/-! rise and thickness -/
set_option maxHeartbeats 1000000 in
theorem rise_any (A1 A2 : Option Addr) (n1 c1 c2 : Nat) (ds ss : List Int) (src co si hy n f R : Int) (w : World) (h : IntsAt w A2 c2 ss) (r : RayOk ds ss src co si hy) (n0 : 0 ≤ n) (n1' : n < ss.length) (f0 : 0 ≤ f) (f1 : f < ss.length) (hR : co * spd ss f - co * spd ss n = R) :
    Calls Tryz.prog 98 #[arcV A1 n1 c1 A2 ss.length c2 src co si hy n f] w fun e w' => e = .returned (.int .i64 R) ∧ Below w.heap.size w w' := by
  have a := r.part n0 n1'; have b := r.part f0 f1
  obtain ⟨P, hP⟩ : ∃ P, co * spd ss n = P := ⟨_, rfl⟩
  obtain ⟨Q, hQ⟩ : ∃ Q, co * spd ss f = Q := ⟨_, rfl⟩
  rw [hP, hQ] at hR
  rw [hP] at a; rw [hQ] at b
  have H := Lib.hid h; have HR := Lib.hid hR; have HP := Lib.hid hP; have HQ := Lib.hid hQ; clear h r hR hP hQ
  go_enter Tryz.func98, Tryz.ntmps98
  go_wp2_with fail
  refine genS (S := fun w' => Below w.heap.size w w' ∧ w.heap.size < w'.heap.size ∧ w'.cell? ⟨w.heap.size, 0, none⟩ = some (.slice A1 n1 c1) ∧ w'.cell? ⟨w.heap.size, 1, none⟩ = some (.slice A2 ss.length c2) ∧ w'.cell? ⟨w.heap.size, 2, none⟩ = some (.int .i64 src) ∧ w'.cell? ⟨w.heap.size, 3, none⟩ = some (.int .i64 co) ∧ w'.cell? ⟨w.heap.size, 4, none⟩ = some (.int .i64 si) ∧ w'.cell? ⟨w.heap.size, 5, none⟩ = some (.int .i64 hy) ∧ w'.cell? ⟨w.heap.size, 6, none⟩ = some (.int .i64 n) ∧ w'.cell? ⟨w.heap.size, 7, none⟩ = some (.int .i64 f)) ⟨by go_grown, by simp, by simp [*, go_sem], by simp [*, go_sem], by simp [*, go_sem], by simp [*, go_sem], by simp [*, go_sem], by simp [*, go_sem], by simp [*, go_sem], by simp [*, go_sem]⟩ ?_
  rintro w0 ⟨B0, lt0, r0, r1, r2, r3, r4, r5, r6, r7⟩
  have z0 : w.heap.size ≤ w0.heap.size := B0.size
  have W1 : IntKind.i64.wrap (Q - P) = Q - P := IntWalk.i64_in _ (by omega)
  go_region_held3 (fun w' => w'.cell? ⟨w.heap.size, 0, none⟩ = some (.slice A1 n1 c1) ∧ w'.cell? ⟨w.heap.size, 1, none⟩ = some (.slice A2 ss.length c2) ∧ w'.cell? ⟨w.heap.size, 2, none⟩ = some (.int .i64 src) ∧ w'.cell? ⟨w.heap.size, 3, none⟩ = some (.int .i64 co) ∧ w'.cell? ⟨w.heap.size, 4, none⟩ = some (.int .i64 si) ∧ w'.cell? ⟨w.heap.size, 5, none⟩ = some (.int .i64 hy) ∧ w'.cell? ⟨w.heap.size, 6, none⟩ = some (.int .i64 n) ∧ w'.cell? ⟨w.heap.size, 7, none⟩ = some (.int .i64 f)) (first | (go_keep; done) | (simp [*, go_sem]; done))
    (first
      | (have hq_ := B1; (go_at_call 94; refine (part_eq _ _ _ _ _ _ _ _ _ _ _ P _ (H.out.below (B := w.heap.size) (by first | exact Below.refl _ _ | (go_grown; done) | exact bdrewN (by go_grown) _) (Nat.le_refl _)) n0 n1' a HP.out).mono ?_; rintro e w2 ⟨rfl, hb2⟩; obtain ⟨B2, hz2, q2, s2, t2, x2, y2, z2⟩ := bkeep (w := w) [w.heap.size] (by first | (simp; done) | (simp; omega)) (by first | (go_grown; done) | exact bdrewN (by go_grown) _) hb2; (try simp at hz2); clear hb2))
      | (go_at_call 94; refine (part_eq _ _ _ _ _ _ _ _ _ _ _ Q _ (H.out.below (B := w.heap.size) (by first | exact Below.refl _ _ | (go_grown; done) | exact bdrewN (by go_grown) _) (Nat.le_refl _)) f0 f1 b HQ.out).mono ?_; rintro e w1 ⟨rfl, hb1⟩; obtain ⟨B1, hz1, q1, s1, t1, x1, y1, z1⟩ := bkeep (w := w) [w.heap.size] (by first | (simp; done) | (simp; omega)) (by first | (go_grown; done) | exact bdrewN (by go_grown) _) hb1; (try simp at hz1); clear hb1))
  clear W1
  go_wp2
  go_ret
  exact ⟨ret_int (by rw [← HR.out]), (by first | with_reducible exact B2 | (go_grown; done) | with_reducible exact bdrewN B2 _ | (go_grown <;> first | with_reducible exact bdrewN B2 _ | with_reducible exact B2))⟩
theorem abs_eq (a T : Int) (w : World) (h1 : -9000000000000000000 ≤ a) (h2 : a ≤ 9000000000000000000) (hT : (a.natAbs : Int) = T) :
    Calls Tryz.prog 74 #[.int .i64 a] w fun e w' => e = .returned (.int .i64 T) ∧ w = w' := by
  subst hT; exact implAbs_any a w h1 h2
set_option maxHeartbeats 1000000 in
theorem thick_any (A1 A2 : Option Addr) (c1 n2 c2 : Nat) (ds : List Int) (src co si hy n f T : Int) (w : World) (h : IntsAt w A1 c1 ds) (n0 : 0 ≤ n) (n1' : n < ds.length) (f0 : 0 ≤ f) (f1 : f < ds.length) (hl : ds.length ≤ 12)
    (hn : 0 ≤ spd ds n ∧ spd ds n ≤ 1000000) (hf : 0 ≤ spd ds f ∧ spd ds f ≤ 1000000) (hT : ((spd ds f - spd ds n).natAbs : Int) = T) :
    Calls Tryz.prog 93 #[arcV A1 ds.length c1 A2 n2 c2 src co si hy n f] w fun e w' => e = .returned (.int .i64 T) ∧ Below w.heap.size w w' := by
  obtain ⟨x, rfl⟩ := Int.eq_ofNat_of_zero_le n0
  obtain ⟨y, rfl⟩ := Int.eq_ofNat_of_zero_le f0
  obtain ⟨bb, o, rfl, hb, q⟩ := h.spd (by omega)
  have qx := q x (by omega); have qy := q y (by omega)
  obtain ⟨P, hP⟩ : ∃ P, spd ds x = P := ⟨_, rfl⟩
  obtain ⟨Q, hQ⟩ : ∃ Q, spd ds y = Q := ⟨_, rfl⟩
  rw [hP] at qx hn hT; rw [hQ] at qy hf hT
  have HT := Lib.hid hT; clear h q hT hP hQ
  go_enter Tryz.func93, Tryz.ntmps93
  go_wp2_with fail
  refine genS (S := fun w' => Below w.heap.size w w' ∧ w.heap.size < w'.heap.size ∧ w'.cell? ⟨w.heap.size, 0, none⟩ = some (.slice (some ⟨bb, o, none⟩) ds.length c1) ∧ w'.cell? ⟨w.heap.size, 6, none⟩ = some (.int .i64 x) ∧ w'.cell? ⟨w.heap.size, 7, none⟩ = some (.int .i64 y)) ⟨by go_grown, by simp, by simp [*, go_sem], by simp [*, go_sem], by simp [*, go_sem]⟩ ?_
  rintro w0 ⟨B0, lt0, r0, r6, r7⟩
  have tx := (B0.cell (p := ⟨bb, o + x, none⟩) hb).trans qx
  have ty := (B0.cell (p := ⟨bb, o + y, none⟩) hb).trans qy
  have W1 : IntKind.i64.wrap (Q - P) = Q - P := IntWalk.i64_in _ (by omega)
  go_region_held3 (fun w' => w'.cell? ⟨w.heap.size, 0, none⟩ = some (.slice (some ⟨bb, o, none⟩) ds.length c1) ∧ w'.cell? ⟨w.heap.size, 6, none⟩ = some (.int .i64 x) ∧ w'.cell? ⟨w.heap.size, 7, none⟩ = some (.int .i64 y) ∧ w'.cell? ⟨bb, o + x, none⟩ = some (.int .i64 P) ∧ w'.cell? ⟨bb, o + y, none⟩ = some (.int .i64 Q)) (first | (go_keep; done) | (simp [*, go_sem]; done))
    (first
      | (go_at_call 74; refine (abs_eq _ T _ (by omega) (by omega) HT.out).mono ?_; rintro e w' ⟨rfl, rfl⟩))
  clear W1
  go_wp2
  go_ret
  exact ⟨rfl, by first | (go_grown; done) | exact bdrewN B0 _ | (go_grown <;> first | exact bdrewN B0 _ | exact B0)⟩
end Go.Proofs.YtopggkomkfjbfaaGreat
