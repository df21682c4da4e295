/- The speed at a depth, by the program and by the reference. -/
import Derived.Test.YtbpekljemchmeaaSpeed
import Derived.IntWalk
namespace Go.Proofs.Ytbpekljemchmeaa
set_option linter.unusedSimpArgs false
set_option linter.unusedVariables false
open Go.RowKit

theorem mul_bd {a b A B : Int} (h1 : -A ≤ a) (h2 : a ≤ A) (h3 : 0 ≤ b) (h4 : b ≤ B) : -(A * B) ≤ a * b ∧ a * b ≤ A * B := by
  have hA : 0 ≤ A := by omega
  have e1 := Int.mul_le_mul_of_nonneg_right h2 h3
  have e2 := Int.mul_le_mul_of_nonneg_left h4 hA
  have e3 := Int.mul_le_mul_of_nonneg_right h1 h3
  rw [Int.neg_mul] at e3
  omega
theorem div_bd {a b M : Int} (hb : 0 < b) (h1 : -M ≤ a) (h2 : a ≤ M) : -M ≤ a / b ∧ a / b ≤ M := by
  have hM : 0 ≤ M := by omega
  have h5 := Int.mul_le_mul_of_nonneg_right (show (1 : Int) ≤ b by omega) hM
  constructor
  · rw [Int.le_ediv_iff_mul_le hb, Int.neg_mul, Int.mul_comm]; omega
  · have : a / b < M + 1 := by rw [Int.ediv_lt_iff_lt_mul hb, Int.add_mul, Int.mul_comm M b]; omega
    omega

/-- what is added to the speed of the knot, times the thickness -/
def spN (ds ss : List Int) (z : Int) (k : Nat) : Int := (spd ss ((k : Int) + 1) - spd ss k) * (z - spd ds k)
def spD (ds : List Int) (k : Nat) : Int := spd ds ((k : Int) + 1) - spd ds k
def spLo (ds ss : List Int) (z : Int) : Int := if depE ds ss z = 0 then spd ss (lay ds z) + spN ds ss z (lay ds z) / spD ds (lay ds z) else 0
def spHi (ds ss : List Int) (z : Int) : Int := if depE ds ss z = 0 then spd ss (lay ds z) + -(-spN ds ss z (lay ds z) / spD ds (lay ds z)) else 0

structure SpOk (ds ss : List Int) (z : Int) (k : Nat) : Prop where
  d0 : 0 ≤ spd ds k
  d1 : spd ds k < spd ds ((k : Int) + 1)
  d2 : spd ds ((k : Int) + 1) ≤ 1000000
  s0 : 1300000 ≤ spd ss k
  s1 : spd ss k ≤ 1700000
  s2 : 1300000 ≤ spd ss ((k : Int) + 1)
  s3 : spd ss ((k : Int) + 1) ≤ 1700000
  z0 : spd ds k ≤ z
  z1 : z ≤ 1000000
  n0 : -400000000000 ≤ (spd ss ((k : Int) + 1) - spd ss k) * (z - spd ds k)
  n1 : (spd ss ((k : Int) + 1) - spd ss k) * (z - spd ds k) ≤ 400000000000
theorem spOk {ds ss : List Int} {z : Int} (h : depE ds ss z = 0) : SpOk ds ss z (lay ds z) := by
  obtain ⟨p, h0, h1⟩ := dep_ok h
  have hl := lay_is h
  have h2 := hl.low p h0
  have hk := hl.1
  have := p.l0; have := p.l2; have := p.l3
  have a1 := p.dp (lay ds z) (by omega) (by omega)
  have a2 := p.dp ((lay ds z : Int) + 1) (by omega) (by omega)
  have a3 := p.up (lay ds z) (by omega) (by omega)
  have a4 := p.sp (lay ds z) (by omega) (by omega)
  have a5 := p.sp ((lay ds z : Int) + 1) (by omega) (by omega)
  have a6 := p.dp ((ds.length : Int) - 1) (by omega) (by omega)
  obtain ⟨m1, m2⟩ := mul_bd (a := spd ss ((lay ds z : Int) + 1) - spd ss (lay ds z)) (b := z - spd ds (lay ds z)) (A := 400000) (B := 1000000) (by omega) (by omega) (by omega) (by omega)
  exact ⟨by omega, by omega, by omega, by omega, by omega, by omega, by omega, by omega, by omega, by omega, by omega⟩

set_option maxHeartbeats 2000000 in
theorem specSpeedAt_any (A1 A2 : Option Addr) (c1 c2 : Nat) (ds ss : List Int) (z : Int) (w : World) (h : ProfAt w A1 c1 A2 c2 ds ss) :
    Calls Try.prog 7 #[profV A1 ds.length c1 A2 ss.length c2, .int .i64 z] w fun e w' => e = .returned (.tuple #[ivV (spLo ds ss z) (spHi ds ss z), .int .i64 (depE ds ss z)]) ∧ Below w.heap.size w w' := by
  by_cases h0 : depE ds ss z = 0
  · obtain ⟨p, hz0, hz1⟩ := dep_ok h0
    have hk := lay_is h0
    have hs := spOk h0
    have e1 : spLo ds ss z = spd ss (lay ds z) + spN ds ss z (lay ds z) / spD ds (lay ds z) := by unfold spLo; rw [if_pos h0]
    have e2 : spHi ds ss z = spd ss (lay ds z) + -(-spN ds ss z (lay ds z) / spD ds (lay ds z)) := by unfold spHi; rw [if_pos h0]
    unfold spN spD at e1 e2
    generalize hkk : lay ds z = k at *
    have hk1 := hk.1; have l1 := p.l1; have l2 := p.l2; have l3 := p.l3
    obtain ⟨b1, o1, rfl, hb1, q1⟩ := h.1.spd (by omega)
    obtain ⟨b2, o2, rfl, hb2, q2⟩ := h.2.spd (by omega)
    have d0 := q1 k (by omega); have d1 := q1 (k + 1) (by omega)
    have s0 := q2 k (by omega); have s1 := q2 (k + 1) (by omega)
    rw [show ((k + 1 : Nat) : Int) = (k : Int) + 1 by omega] at d1 s1
    obtain ⟨g1, g2, g3, g4, g5, g6, g7, g8, g9, g10, g11⟩ := hs
    obtain ⟨f1, f2⟩ := div_bd (b := spd ds ((k : Int) + 1) - spd ds k) (by omega) g10 g11
    obtain ⟨f3, f4⟩ := div_bd (a := -((spd ss ((k : Int) + 1) - spd ss k) * (z - spd ds k))) (b := spd ds ((k : Int) + 1) - spd ds k) (M := 400000000000) (by omega) (by omega) (by omega)
    have k0 : (0 : Int) ≤ k := by omega
    have k1 : (k : Int) < ds.length := by omega
    have k2 : (k : Int) < ss.length := by omega
    have k3 : (0 : Int) ≤ (k : Int) + 1 := by omega
    have k4 : (k : Int) + 1 < ds.length := by omega
    have k5 : (k : Int) + 1 < ss.length := by omega
    have k6 : ((k : Int) + 1).toNat = k + 1 := by omega
    have H := Lib.hid h; have HK := Lib.hid hk; have E1 := Lib.hid e1; have E2 := Lib.hid e2; have H0 := Lib.hid h0
    have hE : (depE ds ss z != 0) = false := by rw [h0]; rfl
    clear q1 q2 h hk e1 e2 p hkk h0
    go_enter Try.func7, Try.ntmps7
    go_wp2_with fail
    (refine (l04Code_any _ _ _ _ _ _ _ _ (H.out.below (B := w.heap.size) (by first | exact Below.refl _ _ | (go_grown; done) | exact bdrewN (by go_grown) _) (Nat.le_refl _))).mono ?_; rintro e w1 ⟨rfl, hb1⟩; obtain ⟨B1, hz1, q1, s1, t1, x1, y1, z1⟩ := bkeep (w := w) [w.heap.size, w.heap.size + 1] (by first | (simp; done) | (simp; omega)) (by first | (go_grown; done) | exact bdrewN (by go_grown) _) hb1; (try simp at hz1); clear hb1)
    go_wp2_with fail
    (refine (l04Layer_any _ _ _ _ _ _ _ k _ (H.out.1.below (B := w.heap.size) (by first | exact Below.refl _ _ | (go_grown; done) | exact bdrewN (by go_grown) _) (Nat.le_refl _)) l1 HK.out).mono ?_; rintro e w2 ⟨rfl, hb2⟩; obtain ⟨B2, hz2, q2, s2, t2, x2, y2, z2⟩ := bkeep (w := w) [w.heap.size, w.heap.size + 1] (by first | (simp; done) | (simp; omega)) (by first | (go_grown; done) | exact bdrewN (by go_grown) _) hb2; (try simp at hz2); clear hb2)
    go_wp2_with fail
    have W0 : IntKind.i64.wrap ((k : Int) + 1) = (k : Int) + 1 := IntWalk.i64_in _ (by omega)
    have W1 : IntKind.i64.wrap (spd ss ((k : Int) + 1) - spd ss k) = spd ss ((k : Int) + 1) - spd ss k := IntWalk.i64_in _ (by omega)
    have W2 : IntKind.i64.wrap (z - spd ds k) = z - spd ds k := IntWalk.i64_in _ (by omega)
    have W3 : IntKind.i64.wrap ((spd ss ((k : Int) + 1) - spd ss k) * (z - spd ds k)) = (spd ss ((k : Int) + 1) - spd ss k) * (z - spd ds k) := IntWalk.i64_in _ (by omega)
    have W4 : IntKind.i64.wrap (spd ds ((k : Int) + 1) - spd ds k) = spd ds ((k : Int) + 1) - spd ds k := IntWalk.i64_in _ (by omega)
    go_quiet (fail)
    clear W0 W1 W2 W3 W4
    go_wp2_with fail
    have W5 : IntKind.i64.wrap (spd ss k + (spd ss ((k : Int) + 1) - spd ss k) * (z - spd ds k) / (spd ds ((k : Int) + 1) - spd ds k)) = spd ss k + (spd ss ((k : Int) + 1) - spd ss k) * (z - spd ds k) / (spd ds ((k : Int) + 1) - spd ds k) := IntWalk.i64_in _ (by omega)
    have W6 : IntKind.i64.wrap (spd ss k + -(-((spd ss ((k : Int) + 1) - spd ss k) * (z - spd ds k)) / (spd ds ((k : Int) + 1) - spd ds k))) = spd ss k + -(-((spd ss ((k : Int) + 1) - spd ss k) * (z - spd ds k)) / (spd ds ((k : Int) + 1) - spd ds k)) := IntWalk.i64_in _ (by omega)
    have fb : 0 < spd ds ((k : Int) + 1) - spd ds k ∧ spd ds ((k : Int) + 1) - spd ds k ≤ 9000000000000000000 ∧ -9000000000000000000 ≤ (spd ss ((k : Int) + 1) - spd ss k) * (z - spd ds k) ∧ (spd ss ((k : Int) + 1) - spd ss k) * (z - spd ds k) ≤ 9000000000000000000 := by omega
    obtain ⟨F1, F2, F3, F4⟩ := fb
    have nb1 : b2 ≠ w.heap.size + 1 := by omega
    have nb2 : w.heap.size + 1 ≠ b2 := by omega
    go_region_held3 (fun w' => (w'.cell? ⟨w.heap.size, 1, none⟩ = some (.slice (some ⟨b2, o2, none⟩) ss.length c2)) ∧ w'.cell? ⟨b2, o2 + k, none⟩ = some (.int .i64 (spd ss k))) (go_keep)
      (first
        | (go_at_call 17; refine (specFloor_any _ _ _ F1 F2 F3 F4).mono ?_; rintro e w' ⟨rfl, rfl⟩)
        | (go_at_call 18; refine (specCeil_any _ _ _ F1 F2 F3 F4).mono ?_; rintro e w' ⟨rfl, rfl⟩))
    clear W5 W6
    go_wp2
    refine bodyPost_ret (by simp [results, Try.results7, go_sem, *] <;> rfl) rfl ?_
    exact ⟨by rw [E1.out, E2.out, H0.out], (by first | with_reducible exact B2 | (go_grown; done) | with_reducible exact bdrewN B2 _ | (go_grown <;> first | with_reducible exact bdrewN B2 _ | with_reducible exact B2))⟩
  · have hE : (depE ds ss z != 0) = true := by simpa using h0
    have e1 : spLo ds ss z = 0 := by unfold spLo; rw [if_neg h0]
    have e2 : spHi ds ss z = 0 := by unfold spHi; rw [if_neg h0]
    have H := Lib.hid h; have E1 := Lib.hid e1; have E2 := Lib.hid e2; clear h h0 e1 e2
    go_enter Try.func7, Try.ntmps7
    go_wp2_with fail
    (refine (l04Code_any _ _ _ _ _ _ _ _ (H.out.below (B := w.heap.size) (by first | exact Below.refl _ _ | (go_grown; done) | exact bdrewN (by go_grown) _) (Nat.le_refl _))).mono ?_; rintro e w1 ⟨rfl, hb1⟩; obtain ⟨B1, hz1, q1, s1, t1, x1, y1, z1⟩ := bkeep (w := w) [w.heap.size, w.heap.size + 1] (by first | (simp; done) | (simp; omega)) (by first | (go_grown; done) | exact bdrewN (by go_grown) _) hb1; (try simp at hz1); clear hb1)
    go_wp2
    refine bodyPost_ret (by simp [results, Try.results7, go_sem, *] <;> rfl) rfl ?_
    exact ⟨by rw [E1.out, E2.out], (by first | with_reducible exact B1 | (go_grown; done) | with_reducible exact bdrewN B1 _ | (go_grown <;> first | with_reducible exact bdrewN B1 _ | with_reducible exact B1))⟩
set_option maxHeartbeats 2000000 in
theorem implSpeedAt_any (A1 A2 : Option Addr) (c1 c2 : Nat) (ds ss : List Int) (z : Int) (w : World) (h : ProfAt w A1 c1 A2 c2 ds ss) :
    Calls Try.prog 6 #[profV A1 ds.length c1 A2 ss.length c2, .int .i64 z] w fun e w' => e = .returned (.tuple #[ivV (spLo ds ss z) (spHi ds ss z), .int .i64 (depE ds ss z)]) ∧ Below w.heap.size w w' := by
  by_cases h0 : depE ds ss z = 0
  · obtain ⟨p, hz0, hz1⟩ := dep_ok h0
    have hk := lay_is h0
    have hs := spOk h0
    have e1 : spLo ds ss z = spd ss (lay ds z) + spN ds ss z (lay ds z) / spD ds (lay ds z) := by unfold spLo; rw [if_pos h0]
    have e2 : spHi ds ss z = spd ss (lay ds z) + -(-spN ds ss z (lay ds z) / spD ds (lay ds z)) := by unfold spHi; rw [if_pos h0]
    unfold spN spD at e1 e2
    generalize hkk : lay ds z = k at *
    have hk1 := hk.1; have l1 := p.l1; have l2 := p.l2; have l3 := p.l3
    obtain ⟨b1, o1, rfl, hb1, q1⟩ := h.1.spd (by omega)
    obtain ⟨b2, o2, rfl, hb2, q2⟩ := h.2.spd (by omega)
    have d0 := q1 k (by omega); have d1 := q1 (k + 1) (by omega)
    have s0 := q2 k (by omega); have s1 := q2 (k + 1) (by omega)
    rw [show ((k + 1 : Nat) : Int) = (k : Int) + 1 by omega] at d1 s1
    obtain ⟨g1, g2, g3, g4, g5, g6, g7, g8, g9, g10, g11⟩ := hs
    obtain ⟨f1, f2⟩ := div_bd (b := spd ds ((k : Int) + 1) - spd ds k) (by omega) g10 g11
    obtain ⟨f3, f4⟩ := div_bd (a := -((spd ss ((k : Int) + 1) - spd ss k) * (z - spd ds k))) (b := spd ds ((k : Int) + 1) - spd ds k) (M := 400000000000) (by omega) (by omega) (by omega)
    have k0 : (0 : Int) ≤ k := by omega
    have k1 : (k : Int) < ds.length := by omega
    have k2 : (k : Int) < ss.length := by omega
    have k3 : (0 : Int) ≤ (k : Int) + 1 := by omega
    have k4 : (k : Int) + 1 < ds.length := by omega
    have k5 : (k : Int) + 1 < ss.length := by omega
    have k6 : ((k : Int) + 1).toNat = k + 1 := by omega
    have H := Lib.hid h; have HK := Lib.hid hk; have E1 := Lib.hid e1; have E2 := Lib.hid e2; have H0 := Lib.hid h0
    have hE : (depE ds ss z != 0) = false := by rw [h0]; rfl
    clear q1 q2 h hk e1 e2 p hkk h0
    go_enter Try.func6, Try.ntmps6
    go_wp2_with fail
    (refine (depthCode_any _ _ _ _ _ _ _ _ (H.out.below (B := w.heap.size) (by first | exact Below.refl _ _ | (go_grown; done) | exact bdrewN (by go_grown) _) (Nat.le_refl _))).mono ?_; rintro e w1 ⟨rfl, hb1⟩; obtain ⟨B1, hz1, q1, s1, t1, x1, y1, z1⟩ := bkeep (w := w) [w.heap.size, w.heap.size + 1] (by first | (simp; done) | (simp; omega)) (by first | (go_grown; done) | exact bdrewN (by go_grown) _) hb1; (try simp at hz1); clear hb1)
    go_wp2_with fail
    (refine (layerOf_any _ _ _ _ _ _ _ k _ (H.out.1.below (B := w.heap.size) (by first | exact Below.refl _ _ | (go_grown; done) | exact bdrewN (by go_grown) _) (Nat.le_refl _)) l1 HK.out).mono ?_; rintro e w2 ⟨rfl, hb2⟩; obtain ⟨B2, hz2, q2, s2, t2, x2, y2, z2⟩ := bkeep (w := w) [w.heap.size, w.heap.size + 1] (by first | (simp; done) | (simp; omega)) (by first | (go_grown; done) | exact bdrewN (by go_grown) _) hb2; (try simp at hz2); clear hb2)
    go_wp2_with fail
    have W0 : IntKind.i64.wrap ((k : Int) + 1) = (k : Int) + 1 := IntWalk.i64_in _ (by omega)
    have W4 : IntKind.i64.wrap (spd ds ((k : Int) + 1) - spd ds k) = spd ds ((k : Int) + 1) - spd ds k := IntWalk.i64_in _ (by omega)
    go_quiet (fail)
    clear W0 W4
    go_wp2_with fail
    have W0 : IntKind.i64.wrap ((k : Int) + 1) = (k : Int) + 1 := IntWalk.i64_in _ (by omega)
    have W1 : IntKind.i64.wrap (spd ss ((k : Int) + 1) - spd ss k) = spd ss ((k : Int) + 1) - spd ss k := IntWalk.i64_in _ (by omega)
    have W2 : IntKind.i64.wrap (z - spd ds k) = z - spd ds k := IntWalk.i64_in _ (by omega)
    have W3 : IntKind.i64.wrap ((spd ss ((k : Int) + 1) - spd ss k) * (z - spd ds k)) = (spd ss ((k : Int) + 1) - spd ss k) * (z - spd ds k) := IntWalk.i64_in _ (by omega)
    go_quiet (fail)
    clear W0 W1 W2 W3
    go_wp2_with fail
    have W5 : IntKind.i64.wrap (spd ss k + (spd ss ((k : Int) + 1) - spd ss k) * (z - spd ds k) / (spd ds ((k : Int) + 1) - spd ds k)) = spd ss k + (spd ss ((k : Int) + 1) - spd ss k) * (z - spd ds k) / (spd ds ((k : Int) + 1) - spd ds k) := IntWalk.i64_in _ (by omega)
    have W6 : IntKind.i64.wrap (spd ss k + -(-((spd ss ((k : Int) + 1) - spd ss k) * (z - spd ds k)) / (spd ds ((k : Int) + 1) - spd ds k))) = spd ss k + -(-((spd ss ((k : Int) + 1) - spd ss k) * (z - spd ds k)) / (spd ds ((k : Int) + 1) - spd ds k)) := IntWalk.i64_in _ (by omega)
    have fb : 0 < spd ds ((k : Int) + 1) - spd ds k ∧ spd ds ((k : Int) + 1) - spd ds k ≤ 9000000000000000000 ∧ -9000000000000000000 ≤ (spd ss ((k : Int) + 1) - spd ss k) * (z - spd ds k) ∧ (spd ss ((k : Int) + 1) - spd ss k) * (z - spd ds k) ≤ 9000000000000000000 := by omega
    obtain ⟨F1, F2, F3, F4⟩ := fb
    have nb1 : b2 ≠ w.heap.size + 1 := by omega
    have nb2 : w.heap.size + 1 ≠ b2 := by omega
    go_region_held3 (fun w' => (w'.cell? ⟨w.heap.size, 1, none⟩ = some (.slice (some ⟨b2, o2, none⟩) ss.length c2)) ∧ w'.cell? ⟨b2, o2 + k, none⟩ = some (.int .i64 (spd ss k))) (go_keep)
      (first
        | (go_at_call 13; refine (implFloor_any _ _ _ F1 F2 F3 F4).mono ?_; rintro e w' ⟨rfl, rfl⟩)
        | (go_at_call 14; refine (implCeil_any _ _ _ F1 F2 F3 F4).mono ?_; rintro e w' ⟨rfl, rfl⟩))
    clear W5 W6
    go_wp2
    refine bodyPost_ret (by simp [results, Try.results6, go_sem, *] <;> rfl) rfl ?_
    exact ⟨by rw [E1.out, E2.out, H0.out], (by first | with_reducible exact B2 | (go_grown; done) | with_reducible exact bdrewN B2 _ | (go_grown <;> first | with_reducible exact bdrewN B2 _ | with_reducible exact B2))⟩
  · have hE : (depE ds ss z != 0) = true := by simpa using h0
    have e1 : spLo ds ss z = 0 := by unfold spLo; rw [if_neg h0]
    have e2 : spHi ds ss z = 0 := by unfold spHi; rw [if_neg h0]
    have H := Lib.hid h; have E1 := Lib.hid e1; have E2 := Lib.hid e2; clear h h0 e1 e2
    go_enter Try.func6, Try.ntmps6
    go_wp2_with fail
    (refine (depthCode_any _ _ _ _ _ _ _ _ (H.out.below (B := w.heap.size) (by first | exact Below.refl _ _ | (go_grown; done) | exact bdrewN (by go_grown) _) (Nat.le_refl _))).mono ?_; rintro e w1 ⟨rfl, hb1⟩; obtain ⟨B1, hz1, q1, s1, t1, x1, y1, z1⟩ := bkeep (w := w) [w.heap.size, w.heap.size + 1] (by first | (simp; done) | (simp; omega)) (by first | (go_grown; done) | exact bdrewN (by go_grown) _) hb1; (try simp at hz1); clear hb1)
    go_wp2
    refine bodyPost_ret (by simp [results, Try.results6, go_sem, *] <;> rfl) rfl ?_
    exact ⟨by rw [E1.out, E2.out], (by first | with_reducible exact B1 | (go_grown; done) | with_reducible exact bdrewN B1 _ | (go_grown <;> first | with_reducible exact bdrewN B1 _ | with_reducible exact B1))⟩
end Go.Proofs.Ytbpekljemchmeaa
