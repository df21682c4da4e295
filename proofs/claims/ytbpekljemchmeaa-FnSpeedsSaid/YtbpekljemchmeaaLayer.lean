/- The layer of a depth, by the program and by the reference; how near the bounds of a speed are. -/
import Derived.Test.YtbpekljemchmeaaSpeedAt
namespace Go.Proofs.Ytbpekljemchmeaa
set_option linter.unusedSimpArgs false
set_option linter.unusedVariables false
open Go.RowKit

@[irreducible] def loK (ds ss : List Int) (z : Int) : Int := if depE ds ss z = 0 then (lay ds z : Int) else 0
theorem loK_ok {ds ss : List Int} {z : Int} (h : depE ds ss z = 0) : loK ds ss z = (lay ds z : Int) := by unfold loK; rw [if_pos h]
theorem loK_no {ds ss : List Int} {z : Int} (h : ¬ depE ds ss z = 0) : loK ds ss z = 0 := by unfold loK; rw [if_neg h]
set_option maxHeartbeats 2000000 in
theorem implLayerOf_any (A1 A2 : Option Addr) (c1 c2 : Nat) (ds ss : List Int) (z : Int) (w : World) (h : ProfAt w A1 c1 A2 c2 ds ss) :
    Calls Try.prog 8 #[profV A1 ds.length c1 A2 ss.length c2, .int .i64 z] w fun e w' => e = .returned (.tuple #[.int .i64 (loK ds ss z), .int .i64 (depE ds ss z)]) ∧ Below w.heap.size w w' := by
  by_cases h0 : depE ds ss z = 0
  · obtain ⟨p, hz0, hz1⟩ := dep_ok h0
    have hk := lay_is h0
    have l1 := p.l1
    have eK := loK_ok h0
    have hE : (depE ds ss z != 0) = false := by rw [h0]; rfl
    have H := Lib.hid h; have HK := Lib.hid hk; have EK := Lib.hid eK; have H0 := Lib.hid h0
    generalize hkk : lay ds z = k at *
    clear h hk eK p hkk h0
    go_enter Try.func8, Try.ntmps8
    go_wp2_with fail
    (refine (depthCode_any _ _ _ _ _ _ _ _ (H.out.below (B := w.heap.size) (by first | exact Below.refl _ _ | (go_grown; done) | exact bdrewN (by go_grown) _) (Nat.le_refl _))).mono ?_; rintro e w1 ⟨rfl, hb1⟩; obtain ⟨B1, hz1, q1, s1, t1, x1, y1, z1⟩ := bkeep (w := w) [w.heap.size] (by first | (simp; done) | (simp; omega)) (by first | (go_grown; done) | exact bdrewN (by go_grown) _) hb1; (try simp at hz1); clear hb1)
    go_wp2_with fail
    (refine (layerOf_any _ _ _ _ _ _ _ k _ (H.out.1.below (B := w.heap.size) (by first | exact Below.refl _ _ | (go_grown; done) | exact bdrewN (by go_grown) _) (Nat.le_refl _)) l1 HK.out).mono ?_; rintro e w2 ⟨rfl, hb2⟩; obtain ⟨B2, hz2, q2, s2, t2, x2, y2, z2⟩ := bkeep (w := w) [w.heap.size] (by first | (simp; done) | (simp; omega)) (by first | (go_grown; done) | exact bdrewN (by go_grown) _) hb2; (try simp at hz2); clear hb2)
    go_wp2
    go_ret2
    exact ⟨by rw [EK.out, H0.out]; rfl, (by first | with_reducible exact B2 | (go_grown; done) | with_reducible exact bdrewN B2 _ | (go_grown <;> first | with_reducible exact bdrewN B2 _ | with_reducible exact B2))⟩
  · have hE : (depE ds ss z != 0) = true := by simpa using h0
    have eK := loK_no h0
    have H := Lib.hid h; have EK := Lib.hid eK; clear h h0 eK
    go_enter Try.func8, Try.ntmps8
    go_wp2_with fail
    (refine (depthCode_any _ _ _ _ _ _ _ _ (H.out.below (B := w.heap.size) (by first | exact Below.refl _ _ | (go_grown; done) | exact bdrewN (by go_grown) _) (Nat.le_refl _))).mono ?_; rintro e w1 ⟨rfl, hb1⟩; obtain ⟨B1, hz1, q1, s1, t1, x1, y1, z1⟩ := bkeep (w := w) [w.heap.size] (by first | (simp; done) | (simp; omega)) (by first | (go_grown; done) | exact bdrewN (by go_grown) _) hb1; (try simp at hz1); clear hb1)
    go_wp2
    go_ret2
    exact ⟨by rw [EK.out]; rfl, (by first | with_reducible exact B1 | (go_grown; done) | with_reducible exact bdrewN B1 _ | (go_grown <;> first | with_reducible exact bdrewN B1 _ | with_reducible exact B1))⟩
set_option maxHeartbeats 2000000 in
theorem specLayerOf_any (A1 A2 : Option Addr) (c1 c2 : Nat) (ds ss : List Int) (z : Int) (w : World) (h : ProfAt w A1 c1 A2 c2 ds ss) :
    Calls Try.prog 9 #[profV A1 ds.length c1 A2 ss.length c2, .int .i64 z] w fun e w' => e = .returned (.tuple #[.int .i64 (loK ds ss z), .int .i64 (depE ds ss z)]) ∧ Below w.heap.size w w' := by
  by_cases h0 : depE ds ss z = 0
  · obtain ⟨p, hz0, hz1⟩ := dep_ok h0
    have hk := lay_is h0
    have l1 := p.l1
    have eK := loK_ok h0
    have hE : (depE ds ss z != 0) = false := by rw [h0]; rfl
    have H := Lib.hid h; have HK := Lib.hid hk; have EK := Lib.hid eK; have H0 := Lib.hid h0
    generalize hkk : lay ds z = k at *
    clear h hk eK p hkk h0
    go_enter Try.func9, Try.ntmps9
    go_wp2_with fail
    (refine (l04Code_any _ _ _ _ _ _ _ _ (H.out.below (B := w.heap.size) (by first | exact Below.refl _ _ | (go_grown; done) | exact bdrewN (by go_grown) _) (Nat.le_refl _))).mono ?_; rintro e w1 ⟨rfl, hb1⟩; obtain ⟨B1, hz1, q1, s1, t1, x1, y1, z1⟩ := bkeep (w := w) [w.heap.size] (by first | (simp; done) | (simp; omega)) (by first | (go_grown; done) | exact bdrewN (by go_grown) _) hb1; (try simp at hz1); clear hb1)
    go_wp2_with fail
    (refine (l04Layer_any _ _ _ _ _ _ _ k _ (H.out.1.below (B := w.heap.size) (by first | exact Below.refl _ _ | (go_grown; done) | exact bdrewN (by go_grown) _) (Nat.le_refl _)) l1 HK.out).mono ?_; rintro e w2 ⟨rfl, hb2⟩; obtain ⟨B2, hz2, q2, s2, t2, x2, y2, z2⟩ := bkeep (w := w) [w.heap.size] (by first | (simp; done) | (simp; omega)) (by first | (go_grown; done) | exact bdrewN (by go_grown) _) hb2; (try simp at hz2); clear hb2)
    go_wp2
    go_ret2
    exact ⟨by rw [EK.out, H0.out]; rfl, (by first | with_reducible exact B2 | (go_grown; done) | with_reducible exact bdrewN B2 _ | (go_grown <;> first | with_reducible exact bdrewN B2 _ | with_reducible exact B2))⟩
  · have hE : (depE ds ss z != 0) = true := by simpa using h0
    have eK := loK_no h0
    have H := Lib.hid h; have EK := Lib.hid eK; clear h h0 eK
    go_enter Try.func9, Try.ntmps9
    go_wp2_with fail
    (refine (l04Code_any _ _ _ _ _ _ _ _ (H.out.below (B := w.heap.size) (by first | exact Below.refl _ _ | (go_grown; done) | exact bdrewN (by go_grown) _) (Nat.le_refl _))).mono ?_; rintro e w1 ⟨rfl, hb1⟩; obtain ⟨B1, hz1, q1, s1, t1, x1, y1, z1⟩ := bkeep (w := w) [w.heap.size] (by first | (simp; done) | (simp; omega)) (by first | (go_grown; done) | exact bdrewN (by go_grown) _) hb1; (try simp at hz1); clear hb1)
    go_wp2
    go_ret2
    exact ⟨by rw [EK.out]; rfl, (by first | with_reducible exact B1 | (go_grown; done) | with_reducible exact bdrewN B1 _ | (go_grown <;> first | with_reducible exact bdrewN B1 _ | with_reducible exact B1))⟩
theorem between_fl {a b t D : Int} (t0 : 0 ≤ t) (t1 : t ≤ D) (hD : 0 < D) :
    min a b ≤ a + (b - a) * t / D ∧ a + -(-((b - a) * t) / D) ≤ max a b ∧ -(-((b - a) * t) / D) - (b - a) * t / D ≤ 1 := by
  have g : -(-((b - a) * t) / D) - (b - a) * t / D ≤ 1 := by
    have h1 := Int.lt_ediv_add_one_mul_self ((b - a) * t) hD
    have h2 : -((b - a) * t / D) - 1 ≤ -((b - a) * t) / D := by
      apply Int.le_ediv_of_mul_le hD
      rw [Int.add_mul] at h1
      rw [Int.sub_mul, Int.neg_mul]
      omega
    omega
  rcases Int.le_total a b with h | h
  · have h1 : 0 ≤ (b - a) * t := Int.mul_nonneg (by omega) t0
    have h2 : 0 ≤ (b - a) * t / D := Int.ediv_nonneg h1 (by omega)
    have h3 : (b - a) * t ≤ (b - a) * D := Int.mul_le_mul_of_nonneg_left t1 (by omega)
    have h4 : -(b - a) ≤ -((b - a) * t) / D := by
      apply Int.le_ediv_of_mul_le hD
      rw [Int.neg_mul]; omega
    refine ⟨by omega, by omega, g⟩
  · have e : (b - a) * t = -((a - b) * t) := by rw [← Int.neg_mul]; congr 1; omega
    have h1 : 0 ≤ (a - b) * t := Int.mul_nonneg (by omega) t0
    have h3 : (a - b) * t ≤ (a - b) * D := Int.mul_le_mul_of_nonneg_left t1 (by omega)
    have h2 : 0 ≤ -((b - a) * t) / D := Int.ediv_nonneg (by omega) (by omega)
    have h4 : -(a - b) ≤ (b - a) * t / D := by
      apply Int.le_ediv_of_mul_le hD
      rw [Int.neg_mul]; omega
    refine ⟨by omega, by omega, g⟩
theorem speeds_ok {ds ss : List Int} {z : Int} (h : depE ds ss z = 0) : ∃ m : Nat, loK ds ss z = m ∧ (m : Int) + 1 < ds.length ∧ ds.length ≤ 12 ∧ ds.length ≤ ss.length ∧ ss.length ≤ ds.length ∧
    spd ds m ≤ z ∧ z ≤ spd ds ((m : Int) + 1) ∧ (spd ss m ≤ spLo ds ss z ∨ spd ss ((m : Int) + 1) ≤ spLo ds ss z) ∧ (spHi ds ss z ≤ spd ss m ∨ spHi ds ss z ≤ spd ss ((m : Int) + 1)) ∧ spHi ds ss z - spLo ds ss z ≤ 1 ∧
    1300000 ≤ spLo ds ss z ∧ spHi ds ss z ≤ 1700000 ∧ spLo ds ss z ≤ spHi ds ss z := by
  obtain ⟨p, hz0, hz1⟩ := dep_ok h
  have hk := lay_is h
  obtain ⟨g1, g2, g3, g4, g5, g6, g7, g8, g9, g10, g11⟩ := spOk h
  have e1 : spLo ds ss z = spd ss (lay ds z) + spN ds ss z (lay ds z) / spD ds (lay ds z) := by unfold spLo; rw [if_pos h]
  have e2 : spHi ds ss z = spd ss (lay ds z) + -(-spN ds ss z (lay ds z) / spD ds (lay ds z)) := by unfold spHi; rw [if_pos h]
  unfold spN spD at e1 e2
  have hk1 := hk.1; have hk3 := hk.2.2
  have l1 := p.l1; have l2 := p.l2; have l3 := p.l3
  obtain ⟨b1, b2, b3⟩ := between_fl (a := spd ss (lay ds z)) (b := spd ss ((lay ds z : Int) + 1)) (t := z - spd ds (lay ds z)) (D := spd ds ((lay ds z : Int) + 1) - spd ds (lay ds z)) (by omega) (by omega) (by omega)
  have f1 := Int.ediv_mul_le ((spd ss ((lay ds z : Int) + 1) - spd ss (lay ds z)) * (z - spd ds (lay ds z))) (show spd ds ((lay ds z : Int) + 1) - spd ds (lay ds z) ≠ 0 by omega)
  have f2 : (spd ss ((lay ds z : Int) + 1) - spd ss (lay ds z)) * (z - spd ds (lay ds z)) / (spd ds ((lay ds z : Int) + 1) - spd ds (lay ds z)) ≤ -(-((spd ss ((lay ds z : Int) + 1) - spd ss (lay ds z)) * (z - spd ds (lay ds z))) / (spd ds ((lay ds z : Int) + 1) - spd ds (lay ds z))) := by
    have hD : 0 < spd ds ((lay ds z : Int) + 1) - spd ds (lay ds z) := by omega
    have h1 : -((spd ss ((lay ds z : Int) + 1) - spd ss (lay ds z)) * (z - spd ds (lay ds z))) / (spd ds ((lay ds z : Int) + 1) - spd ds (lay ds z)) < -((spd ss ((lay ds z : Int) + 1) - spd ss (lay ds z)) * (z - spd ds (lay ds z)) / (spd ds ((lay ds z : Int) + 1) - spd ds (lay ds z))) + 1 := by
      apply Int.ediv_lt_of_lt_mul hD
      rw [Int.add_mul, Int.neg_mul]; omega
    omega
  refine ⟨lay ds z, loK_ok h, by omega, l1, by omega, by omega, g8, hk3, ?_, ?_, ?_, ?_, ?_, ?_⟩ <;> omega
end Go.Proofs.Ytbpekljemchmeaa
