/- Verdicts on layers, by the program and by the reference. -/
import Derived.Test.YtmgmhaikehjddaaArc
namespace Go.Proofs.Ytmgmhaikehjddaa
set_option linter.unusedSimpArgs false
set_option linter.unusedVariables false
open Go.RowKit

theorem near_bd {ss : List Int} {l : Int} (ab : Bool) (l0 : 0 ≤ l) (l1 : l + 1 < ss.length) : 0 ≤ nearK l ab ∧ nearK l ab < ss.length := by cases ab <;> simp [nearK] <;> omega
theorem far_bd {ss : List Int} {l : Int} (ab : Bool) (l0 : 0 ≤ l) (l1 : l + 1 < ss.length) : 0 ≤ farK l ab ∧ farK l ab < ss.length := by cases ab <;> simp [farK] <;> omega

set_option maxHeartbeats 2000000 in
theorem newArc_bad (A1 A2 : Option Addr) (c1 c2 : Nat) (ds ss : List Int) (src co si hy l : Int) (ab : Bool) (w : World) (h : ProfAt w A1 c1 A2 c2 ds ss) (ho : arcE ds ss src co si hy l ≠ 0) :
    Calls Try.prog 116 #[profV A1 ds.length c1 A2 ss.length c2, .int .i64 src, dirV co si hy, .int .i64 l, .bool ab] w fun e w' => e = .returned (.tuple #[zarc, .int .i64 (arcE ds ss src co si hy l)]) ∧ Below w.heap.size w w' := by
  have hn := Nat.le_trans h.1.1 h.1.2.1
  by_cases h0 : rayE ds ss src co si hy 0 = 0
  · have r := rayOk_zero h0
    obtain ⟨he, g⟩ := arc_shut h0 ho
    rw [show (ds.length : Int) - 2 = (ds.length : Int) - 1 - 1 by omega] at g
    have H := Lib.hid h; have R := Lib.hid r; have HE := Lib.hid he; clear h r ho h0 he
    go_enter Try.func116, Try.ntmps116
    go_wp2_with (first
      | (go_at_call 132; refine (newRay_ok _ _ _ _ _ _ _ _ _ _ _ ⟨(H.out.1.below (B := w.heap.size) (by first | exact Below.refl _ _ | (go_grown; done) | exact bdrewN (by go_grown) _) (Nat.le_refl _)), (H.out.2.below (B := w.heap.size) (by first | exact Below.refl _ _ | (go_grown; done) | exact bdrewN (by go_grown) _) (Nat.le_refl _))⟩ R.out).mono ?_; rintro e w1 ⟨rfl, hb1⟩; obtain ⟨B1, hz1, q1, s1, t1, x1, y1, z1⟩ := bkeep (w := w) [w.heap.size, w.heap.size + 1, w.heap.size + 2] (by first | (simp; done) | (simp; omega)) (by first | (go_grown; done) | exact bdrewN (by go_grown) _) hb1; (try simp at hz1); clear hb1)
      | (go_at_call 103; refine (isLayer_any _ _ _ _ _ _ _ _ hn).mono ?_; rintro e w3 ⟨rfl, hb3⟩; obtain ⟨B3, hz3, q3, s3, t3, x3, y3, z3⟩ := bkeep (w := w) [w.heap.size, w.heap.size + 1, w.heap.size + 2] (by first | (simp; done) | (simp; omega)) (by first | (go_grown; done) | exact bdrewN (by go_grown) _) hb3; (try simp at hz3); clear hb3; have zc0 : w3.cell? ⟨w.heap.size + 1 + 1, 0, none⟩ = some (.slice none 0 0) := (by simp [*, go_sem]); have zc1 : w3.cell? ⟨w.heap.size + 1 + 1, 1, none⟩ = some (.slice none 0 0) := (by simp [*, go_sem]); have zc2 : w3.cell? ⟨w.heap.size + 1 + 1, 2, none⟩ = some (.int .i64 0) := (by simp [*, go_sem]); have zc3 : w3.cell? ⟨w.heap.size + 1 + 1, 3, none⟩ = some (.int .i64 0) := (by simp [*, go_sem]); have zc4 : w3.cell? ⟨w.heap.size + 1 + 1, 4, none⟩ = some (.int .i64 0) := (by simp [*, go_sem]); have zc5 : w3.cell? ⟨w.heap.size + 1 + 1, 5, none⟩ = some (.int .i64 0) := (by simp [*, go_sem]); have zc6 : w3.cell? ⟨w.heap.size + 1 + 1, 6, none⟩ = some (.int .i64 0) := (by simp [*, go_sem]); have zc7 : w3.cell? ⟨w.heap.size + 1 + 1, 7, none⟩ = some (.int .i64 0) := (by simp [*, go_sem]); have fz : ∀ o, w3.frozen? ⟨w.heap.size + 1 + 1, o, none⟩ = false := (fun o => by simp [*, go_sem]); clear q1 q3 s1 s3))
    refine bodyPost_ret (by simp [results, Try.results116, go_sem, *] <;> rfl) rfl ?_
    exact ⟨by rw [HE.out], (by first | with_reducible exact B3 | (go_grown; done) | with_reducible exact bdrewN B3 _ | (go_grown <;> first | with_reducible exact bdrewN B3 _ | with_reducible exact B3))⟩
  · have hE : (rayE ds ss src co si hy 0 != 0) = true := by simpa using h0
    have he := arc_bad (l := l) h0
    have H := Lib.hid h; have HE := Lib.hid he; have H0 := Lib.hid h0; clear h ho h0 he
    go_enter Try.func116, Try.ntmps116
    go_wp2_with fail
    refine (newRay_bad _ _ _ _ _ _ _ _ _ _ _ ⟨(H.out.1.below (B := w.heap.size) (by first | exact Below.refl _ _ | (go_grown; done) | exact bdrewN (by go_grown) _) (Nat.le_refl _)), (H.out.2.below (B := w.heap.size) (by first | exact Below.refl _ _ | (go_grown; done) | exact bdrewN (by go_grown) _) (Nat.le_refl _))⟩ H0.out).mono ?_; rintro e w3 ⟨rfl, hb3⟩; obtain ⟨B3, hz3, q3, s3, t3, x3, y3, z3⟩ := bkeep (w := w) [w.heap.size, w.heap.size + 1, w.heap.size + 2] (by first | (simp; done) | (simp; omega)) (by first | (go_grown; done) | exact bdrewN (by go_grown) _) hb3; (try simp at hz3); clear hb3
    have zc0 : w3.cell? ⟨w.heap.size + 1 + 1, 0, none⟩ = some (.slice none 0 0) := (by simp [*, go_sem]); have zc1 : w3.cell? ⟨w.heap.size + 1 + 1, 1, none⟩ = some (.slice none 0 0) := (by simp [*, go_sem]); have zc2 : w3.cell? ⟨w.heap.size + 1 + 1, 2, none⟩ = some (.int .i64 0) := (by simp [*, go_sem]); have zc3 : w3.cell? ⟨w.heap.size + 1 + 1, 3, none⟩ = some (.int .i64 0) := (by simp [*, go_sem]); have zc4 : w3.cell? ⟨w.heap.size + 1 + 1, 4, none⟩ = some (.int .i64 0) := (by simp [*, go_sem]); have zc5 : w3.cell? ⟨w.heap.size + 1 + 1, 5, none⟩ = some (.int .i64 0) := (by simp [*, go_sem]); have zc6 : w3.cell? ⟨w.heap.size + 1 + 1, 6, none⟩ = some (.int .i64 0) := (by simp [*, go_sem]); have zc7 : w3.cell? ⟨w.heap.size + 1 + 1, 7, none⟩ = some (.int .i64 0) := (by simp [*, go_sem]); have fz : ∀ o, w3.frozen? ⟨w.heap.size + 1 + 1, o, none⟩ = false := (fun o => by simp [*, go_sem])
    have lt3 : w.heap.size + 1 + 1 < w3.heap.size := x3 _ (by simp)
    have ne3 : w.heap.size + 1 + 1 ≠ w3.heap.size := Nat.ne_of_lt lt3
    have ne4 : w3.heap.size ≠ w.heap.size + 1 + 1 := ne3.symm
    clear q3 s3
    go_upto_region 3 with (fail)
    refine genS (S := fun w' => Below w.heap.size w w' ∧ (∀ o, w'.frozen? ⟨w.heap.size + 1 + 1, o, none⟩ = false) ∧ w'.cell? ⟨w.heap.size + 1 + 1, 0, none⟩ = some (.slice none 0 0) ∧ w'.cell? ⟨w.heap.size + 1 + 1, 1, none⟩ = some (.slice none 0 0) ∧ w'.cell? ⟨w.heap.size + 1 + 1, 2, none⟩ = some (.int .i64 0) ∧ w'.cell? ⟨w.heap.size + 1 + 1, 3, none⟩ = some (.int .i64 0) ∧ w'.cell? ⟨w.heap.size + 1 + 1, 4, none⟩ = some (.int .i64 0) ∧ w'.cell? ⟨w.heap.size + 1 + 1, 5, none⟩ = some (.int .i64 0) ∧ w'.cell? ⟨w.heap.size + 1 + 1, 6, none⟩ = some (.int .i64 0) ∧ w'.cell? ⟨w.heap.size + 1 + 1, 7, none⟩ = some (.int .i64 0)) ⟨by go_grown, fun o => by simp [*, go_sem], by simp [*, go_sem], by simp [*, go_sem], by simp [*, go_sem], by simp [*, go_sem], by simp [*, go_sem], by simp [*, go_sem], by simp [*, go_sem], by simp [*, go_sem]⟩ ?_
    clear zc0 zc1 zc2 zc3 zc4 zc5 zc6 zc7 fz ne3 ne4 lt3 t3 x3 y3
    rintro w4 ⟨B4, rf, r0, r1, r2, r3, r4, r5, r6, r7⟩
    go_wp2
    refine bodyPost_ret (by simp [results, Try.results116, go_sem, *] <;> rfl) rfl ?_
    exact ⟨by rw [HE.out], (by first | with_reducible exact B4 | (go_grown; done) | with_reducible exact bdrewN B4 _ | (go_grown <;> first | with_reducible exact bdrewN B4 _ | with_reducible exact B4))⟩

/-- the verdict -/
def vdI (ss : List Int) (src co hy n f : Int) : Int := if canB ss src co hy n then (if canB ss src co hy f then 1 else 2) else 0
set_option maxHeartbeats 2000000 in
theorem verdict_any (A1 A2 : Option Addr) (n1 c1 c2 : Nat) (ds ss : List Int) (src co si hy n f : Int) (w : World) (h : IntsAt w A2 c2 ss) (r : RayOk ds ss src co si hy) (n0 : 0 ≤ n) (n1' : n < ss.length) (f0 : 0 ≤ f) (f1 : f < ss.length) :
    Calls Try.prog 117 #[arcV A1 n1 c1 A2 ss.length c2 src co si hy n f] w fun e w' => e = .returned (.int .i64 (vdI ss src co hy n f)) ∧ Below w.heap.size w w' := by
  rcases Bool.eq_false_or_eq_true (canB ss src co hy n) with h1 | h1
  · rcases Bool.eq_false_or_eq_true (canB ss src co hy f) with h2 | h2
    all_goals
      have he : vdI ss src co hy n f = if canB ss src co hy f then 1 else 2 := by unfold vdI; rw [if_pos h1]
      rw [h2] at he
      have hd1 : decide (co * spd ss n < hy * spd ss src) = _ := h1
      have hd2 : decide (co * spd ss f < hy * spd ss src) = _ := h2
      have H := Lib.hid h; have R := Lib.hid r; have HE := Lib.hid he; clear h r h1 h2 he
      go_enter Try.func117, Try.ntmps117
      go_wp2_with (first
        | (have hq_ := B1; (go_at_call 194; refine (canCross_any _ _ _ _ _ _ _ _ _ _ _ _ _ (H.out.below (B := w.heap.size) (by first | exact Below.refl _ _ | (go_grown; done) | exact bdrewN (by go_grown) _) (Nat.le_refl _)) R.out f0 f1).mono ?_; rintro e w2 ⟨rfl, hb2⟩; obtain ⟨B2, hz2, q2, s2, t2, x2, y2, z2⟩ := bkeep (w := w) [w.heap.size] (by first | (simp; done) | (simp; omega)) (by first | (go_grown; done) | exact bdrewN (by go_grown) _) hb2; (try simp at hz2); clear hb2))
        | (go_at_call 194; refine (canCross_any _ _ _ _ _ _ _ _ _ _ _ _ _ (H.out.below (B := w.heap.size) (by first | exact Below.refl _ _ | (go_grown; done) | exact bdrewN (by go_grown) _) (Nat.le_refl _)) R.out n0 n1').mono ?_; rintro e w1 ⟨rfl, hb1⟩; obtain ⟨B1, hz1, q1, s1, t1, x1, y1, z1⟩ := bkeep (w := w) [w.heap.size] (by first | (simp; done) | (simp; omega)) (by first | (go_grown; done) | exact bdrewN (by go_grown) _) hb1; (try simp at hz1); clear hb1))
      go_ret
      exact ⟨ret_int (by rw [HE.out]; rfl), (by first | with_reducible exact B2 | (go_grown; done) | with_reducible exact bdrewN B2 _ | (go_grown <;> first | with_reducible exact bdrewN B2 _ | with_reducible exact B2))⟩
  · have he : vdI ss src co hy n f = 0 := by unfold vdI; rw [h1]; rfl
    have hd1 : decide (co * spd ss n < hy * spd ss src) = false := h1
    have H := Lib.hid h; have R := Lib.hid r; have HE := Lib.hid he; clear h r h1 he
    go_enter Try.func117, Try.ntmps117
    go_wp2_with (go_at_call 194; refine (canCross_any _ _ _ _ _ _ _ _ _ _ _ _ _ (H.out.below (B := w.heap.size) (by first | exact Below.refl _ _ | (go_grown; done) | exact bdrewN (by go_grown) _) (Nat.le_refl _)) R.out n0 n1').mono ?_; rintro e w1 ⟨rfl, hb1⟩; obtain ⟨B1, hz1, q1, s1, t1, x1, y1, z1⟩ := bkeep (w := w) [w.heap.size] (by first | (simp; done) | (simp; omega)) (by first | (go_grown; done) | exact bdrewN (by go_grown) _) hb1; (try simp at hz1); clear hb1)
    go_ret
    exact ⟨ret_int (by rw [HE.out]), (by first | with_reducible exact B1 | (go_grown; done) | with_reducible exact bdrewN B1 _ | (go_grown <;> first | with_reducible exact bdrewN B1 _ | with_reducible exact B1))⟩
set_option maxHeartbeats 2000000 in
theorem l06Verdict_any (A1 A2 : Option Addr) (c1 c2 : Nat) (ds ss : List Int) (src co si hy l : Int) (ab : Bool) (w : World) (h : ProfAt w A1 c1 A2 c2 ds ss) (r : RayOk ds ss src co si hy) (l0 : 0 ≤ l) (l1 : l + 1 < ss.length) :
    Calls Try.prog 114 #[profV A1 ds.length c1 A2 ss.length c2, .int .i64 src, dirV co si hy, .int .i64 l, .bool ab] w fun e w' => e = .returned (.int .i64 (vdI ss src co hy (nearK l ab) (farK l ab))) ∧ Below w.heap.size w w' := by
  obtain ⟨n0, n1⟩ := near_bd ab l0 l1
  obtain ⟨f0, f1⟩ := far_bd ab l0 l1
  have hl : l ≤ 100 := by have := r.l1; have := r.l2; omega
  have p1 := sqI_pos r n0 n1
  have p2 := sqI_pos r f0 f1
  have HEnds : ∀ w, _ := fun w => l06Ends_any l ab w l0 hl
  generalize nearK l ab = n at *
  generalize farK l ab = f at *
  rcases Bool.eq_false_or_eq_true (canB ss src co hy n) with h1 | h1
  · have d1 : decide (sqI ss src co hy n ≤ 0) = false := decide_eq_false (by rw [h1] at p1; have := of_decide_eq_true p1; omega)
    rcases Bool.eq_false_or_eq_true (canB ss src co hy f) with h2 | h2
    all_goals
      have he : vdI ss src co hy n f = if canB ss src co hy f then 1 else 2 := by unfold vdI; rw [if_pos h1]
      rw [h2] at he
      rw [h2] at p2
      have H := Lib.hid h; have R := Lib.hid r; have HE := Lib.hid he; clear h r h1 h2 he p1
      go_enter Try.func114, Try.ntmps114
      go_wp2_with (first
        | (go_at_call 124; refine (HEnds _).mono ?_; rintro e w' ⟨rfl, rfl⟩)
        | (have hq_ := B1; (go_at_call 140; refine (l05Square_any _ _ _ _ _ _ _ _ _ _ _ _ ⟨(H.out.1.below (B := w.heap.size) (by first | exact Below.refl _ _ | (go_grown; done) | exact bdrewN (by go_grown) _) (Nat.le_refl _)), (H.out.2.below (B := w.heap.size) (by first | exact Below.refl _ _ | (go_grown; done) | exact bdrewN (by go_grown) _) (Nat.le_refl _))⟩ R.out f0 f1).mono ?_; rintro e w2 ⟨rfl, hb2⟩; obtain ⟨B2, hz2, q2, s2, t2, x2, y2, z2⟩ := bkeep (w := w) [w.heap.size, w.heap.size + 1] (by first | (simp; done) | (simp; omega)) (by first | (go_grown; done) | exact bdrewN (by go_grown) _) hb2; (try simp at hz2); clear hb2))
        | (go_at_call 140; refine (l05Square_any _ _ _ _ _ _ _ _ _ _ _ _ ⟨(H.out.1.below (B := w.heap.size) (by first | exact Below.refl _ _ | (go_grown; done) | exact bdrewN (by go_grown) _) (Nat.le_refl _)), (H.out.2.below (B := w.heap.size) (by first | exact Below.refl _ _ | (go_grown; done) | exact bdrewN (by go_grown) _) (Nat.le_refl _))⟩ R.out n0 n1).mono ?_; rintro e w1 ⟨rfl, hb1⟩; obtain ⟨B1, hz1, q1, s1, t1, x1, y1, z1⟩ := bkeep (w := w) [w.heap.size, w.heap.size + 1] (by first | (simp; done) | (simp; omega)) (by first | (go_grown; done) | exact bdrewN (by go_grown) _) hb1; (try simp at hz1); clear hb1))
      go_ret
      exact ⟨ret_int (by rw [HE.out]; rfl), (by first | with_reducible exact B2 | (go_grown; done) | with_reducible exact bdrewN B2 _ | (go_grown <;> first | with_reducible exact bdrewN B2 _ | with_reducible exact B2))⟩
  · have d1 : decide (sqI ss src co hy n ≤ 0) = true := decide_eq_true (by rw [h1] at p1; have := of_decide_eq_false p1; omega)
    have he : vdI ss src co hy n f = 0 := by unfold vdI; rw [h1]; rfl
    have H := Lib.hid h; have R := Lib.hid r; have HE := Lib.hid he; clear h r h1 he p1 p2
    go_enter Try.func114, Try.ntmps114
    go_wp2_with (first
      | (go_at_call 124; refine (HEnds _).mono ?_; rintro e w' ⟨rfl, rfl⟩)
      | (go_at_call 140; refine (l05Square_any _ _ _ _ _ _ _ _ _ _ _ _ ⟨(H.out.1.below (B := w.heap.size) (by first | exact Below.refl _ _ | (go_grown; done) | exact bdrewN (by go_grown) _) (Nat.le_refl _)), (H.out.2.below (B := w.heap.size) (by first | exact Below.refl _ _ | (go_grown; done) | exact bdrewN (by go_grown) _) (Nat.le_refl _))⟩ R.out n0 n1).mono ?_; rintro e w1 ⟨rfl, hb1⟩; obtain ⟨B1, hz1, q1, s1, t1, x1, y1, z1⟩ := bkeep (w := w) [w.heap.size, w.heap.size + 1] (by first | (simp; done) | (simp; omega)) (by first | (go_grown; done) | exact bdrewN (by go_grown) _) hb1; (try simp at hz1); clear hb1))
    go_ret
    exact ⟨ret_int (by rw [HE.out]), (by first | with_reducible exact B1 | (go_grown; done) | with_reducible exact bdrewN B1 _ | (go_grown <;> first | with_reducible exact bdrewN B1 _ | with_reducible exact B1))⟩
@[irreducible] def lvI (ds ss : List Int) (src co si hy l : Int) (ab : Bool) : Int := if arcE ds ss src co si hy l = 0 then vdI ss src co hy (nearK l ab) (farK l ab) else 0
set_option maxHeartbeats 2000000 in
theorem implLayerVerdict_any (A1 A2 : Option Addr) (c1 c2 : Nat) (ds ss : List Int) (src co si hy l : Int) (ab : Bool) (w : World) (h : ProfAt w A1 c1 A2 c2 ds ss) :
    Calls Try.prog 34 #[profV A1 ds.length c1 A2 ss.length c2, .int .i64 src, dirV co si hy, .int .i64 l, .bool ab] w fun e w' => e = .returned (.tuple #[.int .i64 (lvI ds ss src co si hy l ab), .int .i64 (arcE ds ss src co si hy l)]) ∧ Below w.heap.size w w' := by
  by_cases h0 : arcE ds ss src co si hy l = 0
  · obtain ⟨r, l0, l1, -, -⟩ := arc_ok h0
    obtain ⟨n0, n1⟩ := near_bd ab l0 l1
    obtain ⟨f0, f1⟩ := far_bd ab l0 l1
    have he : lvI ds ss src co si hy l ab = vdI ss src co hy (nearK l ab) (farK l ab) := by unfold lvI; rw [if_pos h0]
    have H := Lib.hid h; have R := Lib.hid r; have HE := Lib.hid he; have H0 := Lib.hid h0; clear h r he h0
    go_enter Try.func34, Try.ntmps34
    go_wp2_with (first
      | (go_at_call 116; refine (newArc_ok _ _ _ _ _ _ _ _ _ _ _ _ _ ⟨(H.out.1.below (B := w.heap.size) (by first | exact Below.refl _ _ | (go_grown; done) | exact bdrewN (by go_grown) _) (Nat.le_refl _)), (H.out.2.below (B := w.heap.size) (by first | exact Below.refl _ _ | (go_grown; done) | exact bdrewN (by go_grown) _) (Nat.le_refl _))⟩ H0.out).mono ?_; rintro e w1 ⟨rfl, hb1⟩; obtain ⟨B1, hz1, q1, s1, t1, x1, y1, z1⟩ := bkeep (w := w) [w.heap.size, w.heap.size + 1] (by first | (simp; done) | (simp; omega)) (by first | (go_grown; done) | exact bdrewN (by go_grown) _) hb1; (try simp at hz1); clear hb1)
      | (go_at_call 117; refine (verdict_any _ _ _ _ _ _ _ _ _ _ _ _ _ _ (H.out.2.below (B := w.heap.size) (by first | exact Below.refl _ _ | (go_grown; done) | exact bdrewN (by go_grown) _) (Nat.le_refl _)) R.out n0 n1 f0 f1).mono ?_; rintro e w2 ⟨rfl, hb2⟩; obtain ⟨B2, hz2, q2, s2, t2, x2, y2, z2⟩ := bkeep (w := w) [w.heap.size, w.heap.size + 1] (by first | (simp; done) | (simp; omega)) (by first | (go_grown; done) | exact bdrewN (by go_grown) _) hb2; (try simp at hz2); clear hb2))
    go_ret2
    exact ⟨by rw [HE.out, H0.out]; rfl, (by first | with_reducible exact B2 | (go_grown; done) | with_reducible exact bdrewN B2 _ | (go_grown <;> first | with_reducible exact bdrewN B2 _ | with_reducible exact B2))⟩
  · have hE : (arcE ds ss src co si hy l != 0) = true := by simpa using h0
    have he : lvI ds ss src co si hy l ab = 0 := by unfold lvI; rw [if_neg h0]
    have H := Lib.hid h; have HE := Lib.hid he; have H0 := Lib.hid h0; clear h he h0
    go_enter Try.func34, Try.ntmps34
    go_wp2_with (go_at_call 116; refine (newArc_bad _ _ _ _ _ _ _ _ _ _ _ _ _ ⟨(H.out.1.below (B := w.heap.size) (by first | exact Below.refl _ _ | (go_grown; done) | exact bdrewN (by go_grown) _) (Nat.le_refl _)), (H.out.2.below (B := w.heap.size) (by first | exact Below.refl _ _ | (go_grown; done) | exact bdrewN (by go_grown) _) (Nat.le_refl _))⟩ H0.out).mono ?_; rintro e w1 ⟨rfl, hb1⟩; obtain ⟨B1, hz1, q1, s1, t1, x1, y1, z1⟩ := bkeep (w := w) [w.heap.size, w.heap.size + 1] (by first | (simp; done) | (simp; omega)) (by first | (go_grown; done) | exact bdrewN (by go_grown) _) hb1; (try simp at hz1); clear hb1)
    go_ret2
    exact ⟨by rw [HE.out]; rfl, (by first | with_reducible exact B1 | (go_grown; done) | with_reducible exact bdrewN B1 _ | (go_grown <;> first | with_reducible exact bdrewN B1 _ | with_reducible exact B1))⟩
set_option maxHeartbeats 2000000 in
theorem specLayerVerdict_any (A1 A2 : Option Addr) (c1 c2 : Nat) (ds ss : List Int) (src co si hy l : Int) (ab : Bool) (w : World) (h : ProfAt w A1 c1 A2 c2 ds ss) :
    Calls Try.prog 35 #[profV A1 ds.length c1 A2 ss.length c2, .int .i64 src, dirV co si hy, .int .i64 l, .bool ab] w fun e w' => e = .returned (.tuple #[.int .i64 (lvI ds ss src co si hy l ab), .int .i64 (arcE ds ss src co si hy l)]) ∧ Below w.heap.size w w' := by
  by_cases h0 : arcE ds ss src co si hy l = 0
  · obtain ⟨r, l0, l1, -, -⟩ := arc_ok h0
    have he : lvI ds ss src co si hy l ab = vdI ss src co hy (nearK l ab) (farK l ab) := by unfold lvI; rw [if_pos h0]
    have hE : (arcE ds ss src co si hy l != 0) = false := by rw [h0]; rfl
    have H := Lib.hid h; have R := Lib.hid r; have HE := Lib.hid he; have H0 := Lib.hid h0; clear h r he h0
    go_enter Try.func35, Try.ntmps35
    go_wp2_with (first
      | (go_at_call 113; refine (l06Code_any _ _ _ _ _ _ _ _ _ _ _ _ ⟨(H.out.1.below (B := w.heap.size) (by first | exact Below.refl _ _ | (go_grown; done) | exact bdrewN (by go_grown) _) (Nat.le_refl _)), (H.out.2.below (B := w.heap.size) (by first | exact Below.refl _ _ | (go_grown; done) | exact bdrewN (by go_grown) _) (Nat.le_refl _))⟩).mono ?_; rintro e w1 ⟨rfl, hb1⟩; obtain ⟨B1, hz1, q1, s1, t1, x1, y1, z1⟩ := bkeep (w := w) [w.heap.size, w.heap.size + 1] (by first | (simp; done) | (simp; omega)) (by first | (go_grown; done) | exact bdrewN (by go_grown) _) hb1; (try simp at hz1); clear hb1)
      | (go_at_call 114; refine (l06Verdict_any _ _ _ _ _ _ _ _ _ _ _ _ _ ⟨(H.out.1.below (B := w.heap.size) (by first | exact Below.refl _ _ | (go_grown; done) | exact bdrewN (by go_grown) _) (Nat.le_refl _)), (H.out.2.below (B := w.heap.size) (by first | exact Below.refl _ _ | (go_grown; done) | exact bdrewN (by go_grown) _) (Nat.le_refl _))⟩ R.out l0 l1).mono ?_; rintro e w2 ⟨rfl, hb2⟩; obtain ⟨B2, hz2, q2, s2, t2, x2, y2, z2⟩ := bkeep (w := w) [w.heap.size, w.heap.size + 1] (by first | (simp; done) | (simp; omega)) (by first | (go_grown; done) | exact bdrewN (by go_grown) _) hb2; (try simp at hz2); clear hb2))
    go_ret2
    exact ⟨by rw [HE.out, H0.out]; rfl, (by first | with_reducible exact B2 | (go_grown; done) | with_reducible exact bdrewN B2 _ | (go_grown <;> first | with_reducible exact bdrewN B2 _ | with_reducible exact B2))⟩
  · have hE : (arcE ds ss src co si hy l != 0) = true := by simpa using h0
    have he : lvI ds ss src co si hy l ab = 0 := by unfold lvI; rw [if_neg h0]
    have H := Lib.hid h; have HE := Lib.hid he; clear h he h0
    go_enter Try.func35, Try.ntmps35
    go_wp2_with (go_at_call 113; refine (l06Code_any _ _ _ _ _ _ _ _ _ _ _ _ ⟨(H.out.1.below (B := w.heap.size) (by first | exact Below.refl _ _ | (go_grown; done) | exact bdrewN (by go_grown) _) (Nat.le_refl _)), (H.out.2.below (B := w.heap.size) (by first | exact Below.refl _ _ | (go_grown; done) | exact bdrewN (by go_grown) _) (Nat.le_refl _))⟩).mono ?_; rintro e w1 ⟨rfl, hb1⟩; obtain ⟨B1, hz1, q1, s1, t1, x1, y1, z1⟩ := bkeep (w := w) [w.heap.size, w.heap.size + 1] (by first | (simp; done) | (simp; omega)) (by first | (go_grown; done) | exact bdrewN (by go_grown) _) hb1; (try simp at hz1); clear hb1)
    go_ret2
    exact ⟨by rw [HE.out]; rfl, (by first | with_reducible exact B1 | (go_grown; done) | with_reducible exact bdrewN B1 _ | (go_grown <;> first | with_reducible exact bdrewN B1 _ | with_reducible exact B1))⟩
end Go.Proofs.Ytmgmhaikehjddaa
