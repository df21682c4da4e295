/- The range of a ray in a layer, by the program and by the reference. -/
import Derived.Test.YtopggkomkfjbfaaGreatCr
namespace Go.Proofs.YtopggkomkfjbfaaGreat
set_option linter.unusedSimpArgs false
set_option linter.unusedVariables false
open Go.RowKit

@[irreducible] def pasLo (ds ss : List Int) (src co hy l : Int) (ab : Bool) : Int := if canB ss src co hy (farK l ab) then limLo (crLo ds ss src co hy l) (crHi ds ss src co hy l) else limLo (tnLo ds ss src co hy (nearK l ab) (farK l ab)) (tnHi ds ss src co hy (nearK l ab) (farK l ab))
@[irreducible] def pasHi (ds ss : List Int) (src co hy l : Int) (ab : Bool) : Int := if canB ss src co hy (farK l ab) then limHi (crLo ds ss src co hy l) (crHi ds ss src co hy l) else limHi (tnLo ds ss src co hy (nearK l ab) (farK l ab)) (tnHi ds ss src co hy (nearK l ab) (farK l ab))
@[irreducible] def pasC (ds ss : List Int) (src co hy l : Int) (ab : Bool) : Int := if canB ss src co hy (farK l ab) then limC (crLo ds ss src co hy l) (crHi ds ss src co hy l) 3 else limC (tnLo ds ss src co hy (nearK l ab) (farK l ab)) (tnHi ds ss src co hy (nearK l ab) (farK l ab)) 3
theorem pas_cross {ds ss : List Int} {src co hy l : Int} {ab : Bool} (h : canB ss src co hy (farK l ab) = true) : pasLo ds ss src co hy l ab = limLo (crLo ds ss src co hy l) (crHi ds ss src co hy l) ∧ pasHi ds ss src co hy l ab = limHi (crLo ds ss src co hy l) (crHi ds ss src co hy l) ∧ pasC ds ss src co hy l ab = limC (crLo ds ss src co hy l) (crHi ds ss src co hy l) 3 := by
  unfold pasLo pasHi pasC; rw [if_pos h, if_pos h, if_pos h]; exact ⟨rfl, rfl, rfl⟩
theorem pas_turn {ds ss : List Int} {src co hy l : Int} {ab : Bool} (h : canB ss src co hy (farK l ab) = false) : pasLo ds ss src co hy l ab = limLo (tnLo ds ss src co hy (nearK l ab) (farK l ab)) (tnHi ds ss src co hy (nearK l ab) (farK l ab)) ∧ pasHi ds ss src co hy l ab = limHi (tnLo ds ss src co hy (nearK l ab) (farK l ab)) (tnHi ds ss src co hy (nearK l ab) (farK l ab)) ∧ pasC ds ss src co hy l ab = limC (tnLo ds ss src co hy (nearK l ab) (farK l ab)) (tnHi ds ss src co hy (nearK l ab) (farK l ab)) 3 := by
  have h' : ¬ canB ss src co hy (farK l ab) = true := by simp [h]
  unfold pasLo pasHi pasC; rw [if_neg h', if_neg h', if_neg h']; exact ⟨rfl, rfl, rfl⟩
/-- an outcome that is no value is empty -/
theorem lim_zero {lo hi : Int} (h : limC lo hi 3 ≠ 0) : limLo lo hi = 0 ∧ limHi lo hi = 0 := by
  rcases Bool.eq_false_or_eq_true (isB lo hi) with g | g
  · exact absurd (lim_yes (c := 3) g).2.2 h
  · exact ⟨(lim_no (c := 3) g).1, (lim_no (c := 3) g).2.1⟩
theorem pas_zero {ds ss : List Int} {src co hy l : Int} {ab : Bool} (h : pasC ds ss src co hy l ab ≠ 0) : pasLo ds ss src co hy l ab = 0 ∧ pasHi ds ss src co hy l ab = 0 := by
  rcases Bool.eq_false_or_eq_true (canB ss src co hy (farK l ab)) with g | g
  · obtain ⟨a, b, c⟩ := pas_cross (ds := ds) g
    rw [c] at h; rw [a, b]; exact lim_zero h
  · obtain ⟨a, b, c⟩ := pas_turn (ds := ds) g
    rw [c] at h; rw [a, b]; exact lim_zero h
theorem vd_of {ss : List Int} {src co hy n f : Int} (h : canB ss src co hy n = true) : vdI ss src co hy n f = if canB ss src co hy f then 1 else 2 := by unfold vdI; rw [if_pos h]
theorem vd_shut {ss : List Int} {src co hy n f : Int} (h : canB ss src co hy n = false) : vdI ss src co hy n f = 0 := by unfold vdI; rw [h]; rfl
theorem near_or {ss : List Int} {src co hy l : Int} {ab : Bool} (h : canB ss src co hy (nearK l ab) = true) : canB ss src co hy l = true ∨ canB ss src co hy (l + 1) = true := by
  cases ab
  · exact Or.inr h
  · exact Or.inl h

set_option maxHeartbeats 2000000 in
theorem pass_any (A1 A2 : Option Addr) (c1 c2 : Nat) (ds ss : List Int) (src co si hy l : Int) (ab : Bool) (w : World) (h : ProfAt w A1 c1 A2 c2 ds ss) (r : RayOk ds ss src co si hy) (l0 : 0 ≤ l) (l1 : l + 1 < ss.length) (hcn : canB ss src co hy (nearK l ab) = true) :
    Calls Tryz.prog 78 #[arcV A1 ds.length c1 A2 ss.length c2 src co si hy (nearK l ab) (farK l ab)] w fun e w' => e = .returned (.tuple #[ivV (pasLo ds ss src co hy l ab) (pasHi ds ss src co hy l ab), .int .i64 (pasC ds ss src co hy l ab)]) ∧ Below w.heap.size w w' := by
  obtain ⟨n0, n1⟩ := near_bd ab l0 l1
  obtain ⟨f0, f1⟩ := far_bd ab l0 l1
  have hv := vd_of (f := farK l ab) hcn
  rcases Bool.eq_false_or_eq_true (canB ss src co hy (farK l ab)) with hf | hf
  · obtain ⟨e1, e2, e3⟩ := pas_cross (ds := ds) hf
    rw [hf] at hv
    have hvb : (vdI ss src co hy (nearK l ab) (farK l ab) == 1) = true := by rw [hv]; rfl
    have H := Lib.hid h; have RR := Lib.hid r; have E1 := Lib.hid e1; have E2 := Lib.hid e2; have E3 := Lib.hid e3; have HN := Lib.hid hcn; have HF := Lib.hid hf; clear h r e1 e2 e3 hcn hf hv
    go_enter Tryz.func78, Tryz.ntmps78
    go_wp2_with (first
      | (go_at_call 79; refine (verdict_any _ _ _ _ _ _ _ _ _ _ _ _ _ _ (H.out.2.below (B := w.heap.size) (by first | exact Below.refl _ _ | (go_grown; done) | exact bdrewN (by go_grown) _) (Nat.le_refl _)) RR.out n0 n1 f0 f1).mono ?_; rintro e w1 ⟨rfl, hb1⟩; obtain ⟨B1, hz1, q1, s1, t1, x1, y1, z1⟩ := bkeep (w := w) [w.heap.size, w.heap.size + 1] (by first | (simp; done) | (simp; omega)) (by first | (go_grown; done) | exact bdrewN (by go_grown) _) hb1; (try simp at hz1); clear hb1)
      | (go_at_call 87; refine (crossed_ab _ _ _ _ _ _ _ _ _ _ _ _ _ ⟨(H.out.1.below (B := w.heap.size) (by first | exact Below.refl _ _ | (go_grown; done) | exact bdrewN (by go_grown) _) (Nat.le_refl _)), (H.out.2.below (B := w.heap.size) (by first | exact Below.refl _ _ | (go_grown; done) | exact bdrewN (by go_grown) _) (Nat.le_refl _))⟩ RR.out l0 l1 HN.out HF.out).mono ?_; rintro e w2 ⟨rfl, hb2⟩; obtain ⟨B2, hz2, q2, s2, t2, x2, y2, z2⟩ := bkeep (w := w) [w.heap.size, w.heap.size + 1] (by first | (simp; done) | (simp; omega)) (by first | (go_grown; done) | exact bdrewN (by go_grown) _) hb2; (try simp at hz2); clear hb2)
      | (go_at_call 45; refine (checked_any _ _ _ _).mono ?_; rintro e w3 ⟨rfl, hb3⟩; obtain ⟨B3, hz3, q3, s3, t3, x3, y3, z3⟩ := bkeep (w := w) [w.heap.size, w.heap.size + 1] (by first | (simp; done) | (simp; omega)) (by first | (go_grown; done) | exact bdrewN (by go_grown) _) hb3; (try simp at hz3); clear hb3))
    have d0 : w3.cell? ⟨w.heap.size + 1, 0, none⟩ = some (.int .i64 0) := by simp [*, go_sem]
    have d1 : w3.cell? ⟨w.heap.size + 1, 1, none⟩ = some (.int .i64 0) := by simp [*, go_sem]
    clear q1 q2 q3
    refine bodyPost_ret (by simp [results, Tryz.results78, go_sem, *] <;> rfl) rfl ?_
    exact ⟨by rw [E1.out, E2.out, E3.out], (by first | with_reducible exact B3 | (go_grown; done) | with_reducible exact bdrewN B3 _ | (go_grown <;> first | with_reducible exact bdrewN B3 _ | with_reducible exact B3))⟩
  · obtain ⟨e1, e2, e3⟩ := pas_turn (ds := ds) hf
    rw [hf] at hv
    have hvb : (vdI ss src co hy (nearK l ab) (farK l ab) == 1) = false := by rw [hv]; rfl
    have H := Lib.hid h; have RR := Lib.hid r; have E1 := Lib.hid e1; have E2 := Lib.hid e2; have E3 := Lib.hid e3; have HN := Lib.hid hcn; have HF := Lib.hid hf; clear h r e1 e2 e3 hcn hf hv
    go_enter Tryz.func78, Tryz.ntmps78
    go_wp2_with (first
      | (go_at_call 79; refine (verdict_any _ _ _ _ _ _ _ _ _ _ _ _ _ _ (H.out.2.below (B := w.heap.size) (by first | exact Below.refl _ _ | (go_grown; done) | exact bdrewN (by go_grown) _) (Nat.le_refl _)) RR.out n0 n1 f0 f1).mono ?_; rintro e w1 ⟨rfl, hb1⟩; obtain ⟨B1, hz1, q1, s1, t1, x1, y1, z1⟩ := bkeep (w := w) [w.heap.size, w.heap.size + 1] (by first | (simp; done) | (simp; omega)) (by first | (go_grown; done) | exact bdrewN (by go_grown) _) hb1; (try simp at hz1); clear hb1)
      | (go_at_call 88; refine (turned_any _ _ _ _ _ _ _ _ _ _ _ _ _ ⟨(H.out.1.below (B := w.heap.size) (by first | exact Below.refl _ _ | (go_grown; done) | exact bdrewN (by go_grown) _) (Nat.le_refl _)), (H.out.2.below (B := w.heap.size) (by first | exact Below.refl _ _ | (go_grown; done) | exact bdrewN (by go_grown) _) (Nat.le_refl _))⟩ RR.out n0 n1 f0 f1 HN.out HF.out).mono ?_; rintro e w2 ⟨rfl, hb2⟩; obtain ⟨B2, hz2, q2, s2, t2, x2, y2, z2⟩ := bkeep (w := w) [w.heap.size, w.heap.size + 1] (by first | (simp; done) | (simp; omega)) (by first | (go_grown; done) | exact bdrewN (by go_grown) _) hb2; (try simp at hz2); clear hb2)
      | (go_at_call 45; refine (checked_any _ _ _ _).mono ?_; rintro e w3 ⟨rfl, hb3⟩; obtain ⟨B3, hz3, q3, s3, t3, x3, y3, z3⟩ := bkeep (w := w) [w.heap.size, w.heap.size + 1] (by first | (simp; done) | (simp; omega)) (by first | (go_grown; done) | exact bdrewN (by go_grown) _) hb3; (try simp at hz3); clear hb3))
    have d0 : w3.cell? ⟨w.heap.size + 1, 0, none⟩ = some (.int .i64 0) := by simp [*, go_sem]
    have d1 : w3.cell? ⟨w.heap.size + 1, 1, none⟩ = some (.int .i64 0) := by simp [*, go_sem]
    clear q1 q2 q3
    refine bodyPost_ret (by simp [results, Tryz.results78, go_sem, *] <;> rfl) rfl ?_
    exact ⟨by rw [E1.out, E2.out, E3.out], (by first | with_reducible exact B3 | (go_grown; done) | with_reducible exact bdrewN B3 _ | (go_grown <;> first | with_reducible exact bdrewN B3 _ | with_reducible exact B3))⟩
/-- what the reference's passing returns where a layer is not shut: verdict and code -/
@[irreducible] def pasV (ds ss : List Int) (src co hy l : Int) (ab : Bool) : Int := if pasC ds ss src co hy l ab = 0 then vdI ss src co hy (nearK l ab) (farK l ab) else 0
set_option maxHeartbeats 2000000 in
theorem l06Pass_any (A1 A2 : Option Addr) (c1 c2 : Nat) (ds ss : List Int) (src co si hy l : Int) (ab : Bool) (w : World) (h : ProfAt w A1 c1 A2 c2 ds ss) (r : RayOk ds ss src co si hy) (l0 : 0 ≤ l) (l1 : l + 1 < ss.length) (hcn : canB ss src co hy (nearK l ab) = true) :
    Calls Tryz.prog 82 #[profV A1 ds.length c1 A2 ss.length c2, .int .i64 src, dirV co si hy, .int .i64 l, .bool ab] w fun e w' => e = .returned (.tuple #[ivV (pasLo ds ss src co hy l ab) (pasHi ds ss src co hy l ab), .int .i64 (pasV ds ss src co hy l ab), .int .i64 (pasC ds ss src co hy l ab)]) ∧ Below w.heap.size w w' := by
  have hv := vd_of (f := farK l ab) hcn
  have hor := near_or hcn
  have hz := pas_zero (ds := ds) (ss := ss) (src := src) (co := co) (hy := hy) (l := l) (ab := ab)
  rcases Bool.eq_false_or_eq_true (canB ss src co hy (farK l ab)) with hf | hf
  · rw [hf] at hv
    by_cases hp : pasC ds ss src co hy l ab = 0
    · obtain ⟨e1, e2, e3⟩ := pas_cross (ds := ds) hf
      have ev : pasV ds ss src co hy l ab = 1 := by unfold pasV; rw [if_pos hp]; rw [hv]; rfl
      have hc0 : limC (crLo ds ss src co hy l) (crHi ds ss src co hy l) 3 = 0 := by rw [← e3]; exact hp
      rw [hc0] at e3
      have hvv : vdI ss src co hy (nearK l ab) (farK l ab) = 1 := hv
      have hVd : ∀ w, ProfAt w A1 c1 A2 c2 ds ss → Calls Tryz.prog 90 #[profV A1 ds.length c1 A2 ss.length c2, .int .i64 src, dirV co si hy, .int .i64 l, .bool ab] w fun e w' => e = .returned (.int .i64 1) ∧ Below w.heap.size w w' := fun w hh => hvv ▸ l06Verdict_any A1 A2 c1 c2 ds ss src co si hy l ab w hh r l0 l1
      have H := Lib.hid h; have RR := Lib.hid r; have E1 := Lib.hid e1; have E2 := Lib.hid e2; have E3 := Lib.hid e3; have EV := Lib.hid ev; have HN := Lib.hid hcn; have HF := Lib.hid hf; have HV := Lib.hid hVd; have HO := Lib.hid hor; have HC := Lib.hid hc0; clear h r e1 e2 e3 ev hcn hf hv hVd hvv hor hz hp hc0
      go_enter Tryz.func82, Tryz.ntmps82
      go_wp2_with (first
        | (go_at_call 90; refine (HV.out _ ⟨(H.out.1.below (B := w.heap.size) (by first | exact Below.refl _ _ | (go_grown; done) | exact bdrewN (by go_grown) _) (Nat.le_refl _)), (H.out.2.below (B := w.heap.size) (by first | exact Below.refl _ _ | (go_grown; done) | exact bdrewN (by go_grown) _) (Nat.le_refl _))⟩).mono ?_; rintro e w1 ⟨rfl, hb1⟩; obtain ⟨B1, hz1, q1, s1, t1, x1, y1, z1⟩ := bkeep (w := w) [w.heap.size, w.heap.size + 1, w.heap.size + 2] (by first | (simp; done) | (simp; omega)) (by first | (go_grown; done) | exact bdrewN (by go_grown) _) hb1; (try simp at hz1); clear hb1)
        | (go_at_call 91; refine (l06Cross_any _ _ _ _ _ _ _ _ _ _ _ _ ⟨(H.out.1.below (B := w.heap.size) (by first | exact Below.refl _ _ | (go_grown; done) | exact bdrewN (by go_grown) _) (Nat.le_refl _)), (H.out.2.below (B := w.heap.size) (by first | exact Below.refl _ _ | (go_grown; done) | exact bdrewN (by go_grown) _) (Nat.le_refl _))⟩ RR.out l0 l1 HO.out).mono ?_; rw [HC.out]; rintro e w2 ⟨rfl, hb2⟩; obtain ⟨B2, hz2, q2, s2, t2, x2, y2, z2⟩ := bkeep (w := w) [w.heap.size, w.heap.size + 1, w.heap.size + 2] (by first | (simp; done) | (simp; omega)) (by first | (go_grown; done) | exact bdrewN (by go_grown) _) hb2; (try simp at hz2); clear hb2))
      have d0 : w2.cell? ⟨w.heap.size + 1 + 1, 0, none⟩ = some (.int .i64 0) := by simp [*, go_sem]
      have d1 : w2.cell? ⟨w.heap.size + 1 + 1, 1, none⟩ = some (.int .i64 0) := by simp [*, go_sem]
      clear q1 q2
      refine bodyPost_ret (by simp [results, Tryz.results82, go_sem, *] <;> rfl) rfl ?_
      exact ⟨by rw [E1.out, E2.out, E3.out, EV.out], (by first | with_reducible exact B2 | (go_grown; done) | with_reducible exact bdrewN B2 _ | (go_grown <;> first | with_reducible exact bdrewN B2 _ | with_reducible exact B2))⟩
    · obtain ⟨e1, e2, e3⟩ := pas_cross (ds := ds) hf
      have ev : pasV ds ss src co hy l ab = 0 := by unfold pasV; rw [if_neg hp]
      have hc0 : (limC (crLo ds ss src co hy l) (crHi ds ss src co hy l) 3 != 0) = true := by rw [← e3]; simpa using hp
      obtain ⟨z1, z2⟩ := hz hp
      have hvv : vdI ss src co hy (nearK l ab) (farK l ab) = 1 := hv
      have hVd : ∀ w, ProfAt w A1 c1 A2 c2 ds ss → Calls Tryz.prog 90 #[profV A1 ds.length c1 A2 ss.length c2, .int .i64 src, dirV co si hy, .int .i64 l, .bool ab] w fun e w' => e = .returned (.int .i64 1) ∧ Below w.heap.size w w' := fun w hh => hvv ▸ l06Verdict_any A1 A2 c1 c2 ds ss src co si hy l ab w hh r l0 l1
      have H := Lib.hid h; have RR := Lib.hid r; have E1 := Lib.hid z1; have E2 := Lib.hid z2; have E3 := Lib.hid e3; have EV := Lib.hid ev; have HN := Lib.hid hcn; have HF := Lib.hid hf; have HV := Lib.hid hVd; have HO := Lib.hid hor; clear h r e1 e2 e3 ev hcn hf hv hVd hvv hor hz hp z1 z2
      go_enter Tryz.func82, Tryz.ntmps82
      go_wp2_with (first
        | (go_at_call 90; refine (HV.out _ ⟨(H.out.1.below (B := w.heap.size) (by first | exact Below.refl _ _ | (go_grown; done) | exact bdrewN (by go_grown) _) (Nat.le_refl _)), (H.out.2.below (B := w.heap.size) (by first | exact Below.refl _ _ | (go_grown; done) | exact bdrewN (by go_grown) _) (Nat.le_refl _))⟩).mono ?_; rintro e w1 ⟨rfl, hb1⟩; obtain ⟨B1, hz1, q1, s1, t1, x1, y1, z1⟩ := bkeep (w := w) [w.heap.size, w.heap.size + 1, w.heap.size + 2] (by first | (simp; done) | (simp; omega)) (by first | (go_grown; done) | exact bdrewN (by go_grown) _) hb1; (try simp at hz1); clear hb1)
        | (go_at_call 91; refine (l06Cross_any _ _ _ _ _ _ _ _ _ _ _ _ ⟨(H.out.1.below (B := w.heap.size) (by first | exact Below.refl _ _ | (go_grown; done) | exact bdrewN (by go_grown) _) (Nat.le_refl _)), (H.out.2.below (B := w.heap.size) (by first | exact Below.refl _ _ | (go_grown; done) | exact bdrewN (by go_grown) _) (Nat.le_refl _))⟩ RR.out l0 l1 HO.out).mono ?_; rintro e w2 ⟨rfl, hb2⟩; obtain ⟨B2, hz2, q2, s2, t2, x2, y2, z2⟩ := bkeep (w := w) [w.heap.size, w.heap.size + 1, w.heap.size + 2] (by first | (simp; done) | (simp; omega)) (by first | (go_grown; done) | exact bdrewN (by go_grown) _) hb2; (try simp at hz2); clear hb2))
      have d0 : w2.cell? ⟨w.heap.size + 1 + 1, 0, none⟩ = some (.int .i64 0) := by simp [*, go_sem]
      have d1 : w2.cell? ⟨w.heap.size + 1 + 1, 1, none⟩ = some (.int .i64 0) := by simp [*, go_sem]
      clear q1 q2
      refine bodyPost_ret (by simp [results, Tryz.results82, go_sem, *] <;> rfl) rfl ?_
      exact ⟨by rw [E1.out, E2.out, E3.out, EV.out], (by first | with_reducible exact B2 | (go_grown; done) | with_reducible exact bdrewN B2 _ | (go_grown <;> first | with_reducible exact bdrewN B2 _ | with_reducible exact B2))⟩
  · rw [hf] at hv
    by_cases hp : pasC ds ss src co hy l ab = 0
    · obtain ⟨e1, e2, e3⟩ := pas_turn (ds := ds) hf
      have ev : pasV ds ss src co hy l ab = 2 := by unfold pasV; rw [if_pos hp]; rw [hv]; rfl
      have hc0 : limC (tnLo ds ss src co hy (nearK l ab) (farK l ab)) (tnHi ds ss src co hy (nearK l ab) (farK l ab)) 3 = 0 := by rw [← e3]; exact hp
      rw [hc0] at e3
      have hvv : vdI ss src co hy (nearK l ab) (farK l ab) = 2 := hv
      have hVd : ∀ w, ProfAt w A1 c1 A2 c2 ds ss → Calls Tryz.prog 90 #[profV A1 ds.length c1 A2 ss.length c2, .int .i64 src, dirV co si hy, .int .i64 l, .bool ab] w fun e w' => e = .returned (.int .i64 2) ∧ Below w.heap.size w w' := fun w hh => hvv ▸ l06Verdict_any A1 A2 c1 c2 ds ss src co si hy l ab w hh r l0 l1
      have H := Lib.hid h; have RR := Lib.hid r; have E1 := Lib.hid e1; have E2 := Lib.hid e2; have E3 := Lib.hid e3; have EV := Lib.hid ev; have HN := Lib.hid hcn; have HF := Lib.hid hf; have HV := Lib.hid hVd; have HO := Lib.hid hor; have HC := Lib.hid hc0; clear h r e1 e2 e3 ev hcn hf hv hVd hvv hor hz hp hc0
      go_enter Tryz.func82, Tryz.ntmps82
      go_wp2_with (first
        | (go_at_call 90; refine (HV.out _ ⟨(H.out.1.below (B := w.heap.size) (by first | exact Below.refl _ _ | (go_grown; done) | exact bdrewN (by go_grown) _) (Nat.le_refl _)), (H.out.2.below (B := w.heap.size) (by first | exact Below.refl _ _ | (go_grown; done) | exact bdrewN (by go_grown) _) (Nat.le_refl _))⟩).mono ?_; rintro e w1 ⟨rfl, hb1⟩; obtain ⟨B1, hz1, q1, s1, t1, x1, y1, z1⟩ := bkeep (w := w) [w.heap.size, w.heap.size + 1, w.heap.size + 2] (by first | (simp; done) | (simp; omega)) (by first | (go_grown; done) | exact bdrewN (by go_grown) _) hb1; (try simp at hz1); clear hb1)
        | (go_at_call 91; refine (l06Cross_any _ _ _ _ _ _ _ _ _ _ _ _ ⟨(H.out.1.below (B := w.heap.size) (by first | exact Below.refl _ _ | (go_grown; done) | exact bdrewN (by go_grown) _) (Nat.le_refl _)), (H.out.2.below (B := w.heap.size) (by first | exact Below.refl _ _ | (go_grown; done) | exact bdrewN (by go_grown) _) (Nat.le_refl _))⟩ RR.out l0 l1 HO.out).mono ?_; rintro e w2 ⟨rfl, hb2⟩; obtain ⟨B2, hz2, q2, s2, t2, x2, y2, z2⟩ := bkeep (w := w) [w.heap.size, w.heap.size + 1, w.heap.size + 2] (by first | (simp; done) | (simp; omega)) (by first | (go_grown; done) | exact bdrewN (by go_grown) _) hb2; (try simp at hz2); clear hb2)
        | (go_at_call 92; refine (l06Turn_any _ _ _ _ _ _ _ _ _ _ _ _ _ ⟨(H.out.1.below (B := w.heap.size) (by first | exact Below.refl _ _ | (go_grown; done) | exact bdrewN (by go_grown) _) (Nat.le_refl _)), (H.out.2.below (B := w.heap.size) (by first | exact Below.refl _ _ | (go_grown; done) | exact bdrewN (by go_grown) _) (Nat.le_refl _))⟩ RR.out l0 l1 HN.out HF.out).mono ?_; rw [HC.out]; rintro e w3 ⟨rfl, hb3⟩; obtain ⟨B3, hz3, q3, s3, t3, x3, y3, z3⟩ := bkeep (w := w) [w.heap.size, w.heap.size + 1, w.heap.size + 2, w2.heap.size] (by first | (simp; done) | (simp; omega)) (by first | (go_grown; done) | exact bdrewN (by go_grown) _) hb3; (try simp at hz3); clear hb3))
      have d0 : w3.cell? ⟨w.heap.size + 1 + 1, 0, none⟩ = some (.int .i64 0) := by simp [*, go_sem]
      have d1 : w3.cell? ⟨w.heap.size + 1 + 1, 1, none⟩ = some (.int .i64 0) := by simp [*, go_sem]
      clear q1 q2 q3
      refine bodyPost_ret (by simp [results, Tryz.results82, go_sem, *] <;> rfl) rfl ?_
      exact ⟨by rw [E1.out, E2.out, E3.out, EV.out], (by first | with_reducible exact B3 | (go_grown; done) | with_reducible exact bdrewN B3 _ | (go_grown <;> first | with_reducible exact bdrewN B3 _ | with_reducible exact B3))⟩
    · obtain ⟨e1, e2, e3⟩ := pas_turn (ds := ds) hf
      have ev : pasV ds ss src co hy l ab = 0 := by unfold pasV; rw [if_neg hp]
      have hc0 : (limC (tnLo ds ss src co hy (nearK l ab) (farK l ab)) (tnHi ds ss src co hy (nearK l ab) (farK l ab)) 3 != 0) = true := by rw [← e3]; simpa using hp
      obtain ⟨z1, z2⟩ := hz hp
      have hvv : vdI ss src co hy (nearK l ab) (farK l ab) = 2 := hv
      have hVd : ∀ w, ProfAt w A1 c1 A2 c2 ds ss → Calls Tryz.prog 90 #[profV A1 ds.length c1 A2 ss.length c2, .int .i64 src, dirV co si hy, .int .i64 l, .bool ab] w fun e w' => e = .returned (.int .i64 2) ∧ Below w.heap.size w w' := fun w hh => hvv ▸ l06Verdict_any A1 A2 c1 c2 ds ss src co si hy l ab w hh r l0 l1
      have H := Lib.hid h; have RR := Lib.hid r; have E1 := Lib.hid z1; have E2 := Lib.hid z2; have E3 := Lib.hid e3; have EV := Lib.hid ev; have HN := Lib.hid hcn; have HF := Lib.hid hf; have HV := Lib.hid hVd; have HO := Lib.hid hor; clear h r e1 e2 e3 ev hcn hf hv hVd hvv hor hz hp z1 z2
      go_enter Tryz.func82, Tryz.ntmps82
      go_wp2_with (first
        | (go_at_call 90; refine (HV.out _ ⟨(H.out.1.below (B := w.heap.size) (by first | exact Below.refl _ _ | (go_grown; done) | exact bdrewN (by go_grown) _) (Nat.le_refl _)), (H.out.2.below (B := w.heap.size) (by first | exact Below.refl _ _ | (go_grown; done) | exact bdrewN (by go_grown) _) (Nat.le_refl _))⟩).mono ?_; rintro e w1 ⟨rfl, hb1⟩; obtain ⟨B1, hz1, q1, s1, t1, x1, y1, z1⟩ := bkeep (w := w) [w.heap.size, w.heap.size + 1, w.heap.size + 2] (by first | (simp; done) | (simp; omega)) (by first | (go_grown; done) | exact bdrewN (by go_grown) _) hb1; (try simp at hz1); clear hb1)
        | (go_at_call 91; refine (l06Cross_any _ _ _ _ _ _ _ _ _ _ _ _ ⟨(H.out.1.below (B := w.heap.size) (by first | exact Below.refl _ _ | (go_grown; done) | exact bdrewN (by go_grown) _) (Nat.le_refl _)), (H.out.2.below (B := w.heap.size) (by first | exact Below.refl _ _ | (go_grown; done) | exact bdrewN (by go_grown) _) (Nat.le_refl _))⟩ RR.out l0 l1 HO.out).mono ?_; rintro e w2 ⟨rfl, hb2⟩; obtain ⟨B2, hz2, q2, s2, t2, x2, y2, z2⟩ := bkeep (w := w) [w.heap.size, w.heap.size + 1, w.heap.size + 2] (by first | (simp; done) | (simp; omega)) (by first | (go_grown; done) | exact bdrewN (by go_grown) _) hb2; (try simp at hz2); clear hb2)
        | (go_at_call 92; refine (l06Turn_any _ _ _ _ _ _ _ _ _ _ _ _ _ ⟨(H.out.1.below (B := w.heap.size) (by first | exact Below.refl _ _ | (go_grown; done) | exact bdrewN (by go_grown) _) (Nat.le_refl _)), (H.out.2.below (B := w.heap.size) (by first | exact Below.refl _ _ | (go_grown; done) | exact bdrewN (by go_grown) _) (Nat.le_refl _))⟩ RR.out l0 l1 HN.out HF.out).mono ?_; rintro e w3 ⟨rfl, hb3⟩; obtain ⟨B3, hz3, q3, s3, t3, x3, y3, z3⟩ := bkeep (w := w) [w.heap.size, w.heap.size + 1, w.heap.size + 2, w2.heap.size] (by first | (simp; done) | (simp; omega)) (by first | (go_grown; done) | exact bdrewN (by go_grown) _) hb3; (try simp at hz3); clear hb3))
      have d0 : w3.cell? ⟨w.heap.size + 1 + 1, 0, none⟩ = some (.int .i64 0) := by simp [*, go_sem]
      have d1 : w3.cell? ⟨w.heap.size + 1 + 1, 1, none⟩ = some (.int .i64 0) := by simp [*, go_sem]
      clear q1 q2 q3
      refine bodyPost_ret (by simp [results, Tryz.results82, go_sem, *] <;> rfl) rfl ?_
      exact ⟨by rw [E1.out, E2.out, E3.out, EV.out], (by first | with_reducible exact B3 | (go_grown; done) | with_reducible exact bdrewN B3 _ | (go_grown <;> first | with_reducible exact bdrewN B3 _ | with_reducible exact B3))⟩
@[irreducible] def plE (ds ss : List Int) (src co si hy l : Int) (ab : Bool) : Int := if arcE ds ss src co si hy l = 0 then (if canB ss src co hy (nearK l ab) then pasC ds ss src co hy l ab else 5) else arcE ds ss src co si hy l
@[irreducible] def plLo (ds ss : List Int) (src co si hy l : Int) (ab : Bool) : Int := if arcE ds ss src co si hy l = 0 ∧ canB ss src co hy (nearK l ab) = true then pasLo ds ss src co hy l ab else 0
@[irreducible] def plHi (ds ss : List Int) (src co si hy l : Int) (ab : Bool) : Int := if arcE ds ss src co si hy l = 0 ∧ canB ss src co hy (nearK l ab) = true then pasHi ds ss src co hy l ab else 0
@[irreducible] def plV (ds ss : List Int) (src co si hy l : Int) (ab : Bool) : Int := if arcE ds ss src co si hy l = 0 ∧ canB ss src co hy (nearK l ab) = true ∧ pasC ds ss src co hy l ab = 0 then vdI ss src co hy (nearK l ab) (farK l ab) else 0
theorem pl_ok {ds ss : List Int} {src co si hy l : Int} {ab : Bool} (h0 : arcE ds ss src co si hy l = 0) (hc : canB ss src co hy (nearK l ab) = true) : plE ds ss src co si hy l ab = pasC ds ss src co hy l ab ∧ plLo ds ss src co si hy l ab = pasLo ds ss src co hy l ab ∧ plHi ds ss src co si hy l ab = pasHi ds ss src co hy l ab ∧ plV ds ss src co si hy l ab = if pasC ds ss src co hy l ab = 0 then vdI ss src co hy (nearK l ab) (farK l ab) else 0 := by
  unfold plE plLo plHi plV; simp [h0, hc]
theorem pl_shut {ds ss : List Int} {src co si hy l : Int} {ab : Bool} (h0 : arcE ds ss src co si hy l = 0) (hc : canB ss src co hy (nearK l ab) = false) : plE ds ss src co si hy l ab = 5 ∧ plLo ds ss src co si hy l ab = 0 ∧ plHi ds ss src co si hy l ab = 0 ∧ plV ds ss src co si hy l ab = 0 := by
  unfold plE plLo plHi plV; simp [h0, hc]
theorem pl_bad {ds ss : List Int} {src co si hy l : Int} {ab : Bool} (h0 : arcE ds ss src co si hy l ≠ 0) : plE ds ss src co si hy l ab = arcE ds ss src co si hy l ∧ plLo ds ss src co si hy l ab = 0 ∧ plHi ds ss src co si hy l ab = 0 ∧ plV ds ss src co si hy l ab = 0 := by
  unfold plE plLo plHi plV; simp [h0]
set_option maxHeartbeats 1000000 in
theorem l06Pass_shut (A1 A2 : Option Addr) (c1 c2 : Nat) (ds ss : List Int) (src co si hy l : Int) (ab : Bool) (w : World) (h : ProfAt w A1 c1 A2 c2 ds ss) (r : RayOk ds ss src co si hy) (l0 : 0 ≤ l) (l1 : l + 1 < ss.length) (hcn : canB ss src co hy (nearK l ab) = false) :
    Calls Tryz.prog 82 #[profV A1 ds.length c1 A2 ss.length c2, .int .i64 src, dirV co si hy, .int .i64 l, .bool ab] w fun e w' => e = .returned (.tuple #[ivV 0 0, .int .i64 0, .int .i64 5]) ∧ Below w.heap.size w w' := by
  have hv := vd_shut (f := farK l ab) hcn
  have hvb : (vdI ss src co hy (nearK l ab) (farK l ab) == 0) = true := by rw [hv]; rfl
  have H := Lib.hid h; have RR := Lib.hid r; clear h r hcn hv
  go_enter Tryz.func82, Tryz.ntmps82
  go_wp2_with (go_at_call 90; refine (l06Verdict_any _ _ _ _ _ _ _ _ _ _ _ _ _ ⟨(H.out.1.below (B := w.heap.size) (by first | exact Below.refl _ _ | (go_grown; done) | exact bdrewN (by go_grown) _) (Nat.le_refl _)), (H.out.2.below (B := w.heap.size) (by first | exact Below.refl _ _ | (go_grown; done) | exact bdrewN (by go_grown) _) (Nat.le_refl _))⟩ RR.out l0 l1).mono ?_; rintro e w1 ⟨rfl, hb1⟩; obtain ⟨B1, hz1, q1, s1, t1, x1, y1, z1⟩ := bkeep (w := w) [w.heap.size, w.heap.size + 1, w.heap.size + 2] (by first | (simp; done) | (simp; omega)) (by first | (go_grown; done) | exact bdrewN (by go_grown) _) hb1; (try simp at hz1); clear hb1)
  have d0 : w1.cell? ⟨w.heap.size + 1 + 1, 0, none⟩ = some (.int .i64 0) := by simp [*, go_sem]
  have d1 : w1.cell? ⟨w.heap.size + 1 + 1, 1, none⟩ = some (.int .i64 0) := by simp [*, go_sem]
  clear q1
  refine bodyPost_ret (by simp [results, Tryz.results82, go_sem, *] <;> rfl) rfl ?_
  exact ⟨rfl, (by first | with_reducible exact B1 | (go_grown; done) | with_reducible exact bdrewN B1 _ | (go_grown <;> first | with_reducible exact bdrewN B1 _ | with_reducible exact B1))⟩
end Go.Proofs.YtopggkomkfjbfaaGreat
