/- Verdicts on layers, by the program and by the reference. -/
import Derived.Test.YtopggkomkfjbfaaGreatArc
namespace Go.Proofs.YtopggkomkfjbfaaGreat
set_option linter.unusedSimpArgs false
set_option linter.unusedVariables false
open Go.RowKit

theorem near_bd {ss : List Int} {l : Int} (ab : Bool) (l0 : 0 ≤ l) (l1 : l + 1 < ss.length) : 0 ≤ nearK l ab ∧ nearK l ab < ss.length := by cases ab <;> simp [nearK] <;> omega
theorem far_bd {ss : List Int} {l : Int} (ab : Bool) (l0 : 0 ≤ l) (l1 : l + 1 < ss.length) : 0 ≤ farK l ab ∧ farK l ab < ss.length := by cases ab <;> simp [farK] <;> omega


/-- the verdict -/
def vdI (ss : List Int) (src co hy n f : Int) : Int := if canB ss src co hy n then (if canB ss src co hy f then 1 else 2) else 0
set_option maxHeartbeats 2000000 in
theorem verdict_any (A1 A2 : Option Addr) (n1 c1 c2 : Nat) (ds ss : List Int) (src co si hy n f : Int) (w : World) (h : IntsAt w A2 c2 ss) (r : RayOk ds ss src co si hy) (n0 : 0 ≤ n) (n1' : n < ss.length) (f0 : 0 ≤ f) (f1 : f < ss.length) :
    Calls Tryz.prog 79 #[arcV A1 n1 c1 A2 ss.length c2 src co si hy n f] w fun e w' => e = .returned (.int .i64 (vdI ss src co hy n f)) ∧ Below w.heap.size w w' := by
  rcases Bool.eq_false_or_eq_true (canB ss src co hy n) with h1 | h1
  · rcases Bool.eq_false_or_eq_true (canB ss src co hy f) with h2 | h2
    all_goals
      have he : vdI ss src co hy n f = if canB ss src co hy f then 1 else 2 := by unfold vdI; rw [if_pos h1]
      rw [h2] at he
      have hd1 : decide (co * spd ss n < hy * spd ss src) = _ := h1
      have hd2 : decide (co * spd ss f < hy * spd ss src) = _ := h2
      have H := Lib.hid h; have R := Lib.hid r; have HE := Lib.hid he; clear h r h1 h2 he
      go_enter Tryz.func79, Tryz.ntmps79
      go_wp2_with (first
        | (have hq_ := B1; (go_at_call 89; refine (canCross_any _ _ _ _ _ _ _ _ _ _ _ _ _ (H.out.below (B := w.heap.size) (by first | exact Below.refl _ _ | (go_grown; done) | exact bdrewN (by go_grown) _) (Nat.le_refl _)) R.out f0 f1).mono ?_; rintro e w2 ⟨rfl, hb2⟩; obtain ⟨B2, hz2, q2, s2, t2, x2, y2, z2⟩ := bkeep (w := w) [w.heap.size] (by first | (simp; done) | (simp; omega)) (by first | (go_grown; done) | exact bdrewN (by go_grown) _) hb2; (try simp at hz2); clear hb2))
        | (go_at_call 89; refine (canCross_any _ _ _ _ _ _ _ _ _ _ _ _ _ (H.out.below (B := w.heap.size) (by first | exact Below.refl _ _ | (go_grown; done) | exact bdrewN (by go_grown) _) (Nat.le_refl _)) R.out n0 n1').mono ?_; rintro e w1 ⟨rfl, hb1⟩; obtain ⟨B1, hz1, q1, s1, t1, x1, y1, z1⟩ := bkeep (w := w) [w.heap.size] (by first | (simp; done) | (simp; omega)) (by first | (go_grown; done) | exact bdrewN (by go_grown) _) hb1; (try simp at hz1); clear hb1))
      go_ret
      exact ⟨ret_int (by rw [HE.out]; rfl), (by first | with_reducible exact B2 | (go_grown; done) | with_reducible exact bdrewN B2 _ | (go_grown <;> first | with_reducible exact bdrewN B2 _ | with_reducible exact B2))⟩
  · have he : vdI ss src co hy n f = 0 := by unfold vdI; rw [h1]; rfl
    have hd1 : decide (co * spd ss n < hy * spd ss src) = false := h1
    have H := Lib.hid h; have R := Lib.hid r; have HE := Lib.hid he; clear h r h1 he
    go_enter Tryz.func79, Tryz.ntmps79
    go_wp2_with (go_at_call 89; refine (canCross_any _ _ _ _ _ _ _ _ _ _ _ _ _ (H.out.below (B := w.heap.size) (by first | exact Below.refl _ _ | (go_grown; done) | exact bdrewN (by go_grown) _) (Nat.le_refl _)) R.out n0 n1').mono ?_; rintro e w1 ⟨rfl, hb1⟩; obtain ⟨B1, hz1, q1, s1, t1, x1, y1, z1⟩ := bkeep (w := w) [w.heap.size] (by first | (simp; done) | (simp; omega)) (by first | (go_grown; done) | exact bdrewN (by go_grown) _) hb1; (try simp at hz1); clear hb1)
    go_ret
    exact ⟨ret_int (by rw [HE.out]), (by first | with_reducible exact B1 | (go_grown; done) | with_reducible exact bdrewN B1 _ | (go_grown <;> first | with_reducible exact bdrewN B1 _ | with_reducible exact B1))⟩
set_option maxHeartbeats 2000000 in
theorem l06Verdict_any (A1 A2 : Option Addr) (c1 c2 : Nat) (ds ss : List Int) (src co si hy l : Int) (ab : Bool) (w : World) (h : ProfAt w A1 c1 A2 c2 ds ss) (r : RayOk ds ss src co si hy) (l0 : 0 ≤ l) (l1 : l + 1 < ss.length) :
    Calls Tryz.prog 90 #[profV A1 ds.length c1 A2 ss.length c2, .int .i64 src, dirV co si hy, .int .i64 l, .bool ab] w fun e w' => e = .returned (.int .i64 (vdI ss src co hy (nearK l ab) (farK l ab))) ∧ Below w.heap.size w w' := by
  obtain ⟨n0, n1⟩ := near_bd ab l0 l1
  obtain ⟨f0, f1⟩ := far_bd ab l0 l1
  have hl : l ≤ 100 := by have := r.l1; have := r.l2; omega
  have p1 := sqI_pos r n0 n1
  have p2 := sqI_pos r f0 f1
  have HEnds : ∀ w, _ := fun w => l06Ends_any l ab w l0 hl
  generalize nearK l ab = n at *
  generalize farK l ab = f at *
  rcases Bool.eq_false_or_eq_true (canB ss src co hy n) with h1 | h1
  · have d1 : decide (sqI ss src co hy n ≤ 0) = false := decide_eq_false (by rw [h1] at p1; have := of_decide_eq_true p1; omega)
    rcases Bool.eq_false_or_eq_true (canB ss src co hy f) with h2 | h2
    all_goals
      have he : vdI ss src co hy n f = if canB ss src co hy f then 1 else 2 := by unfold vdI; rw [if_pos h1]
      rw [h2] at he
      rw [h2] at p2
      have H := Lib.hid h; have R := Lib.hid r; have HE := Lib.hid he; clear h r h1 h2 he p1
      go_enter Tryz.func90, Tryz.ntmps90
      go_wp2_with (first
        | (go_at_call 83; refine (HEnds _).mono ?_; rintro e w' ⟨rfl, rfl⟩)
        | (have hq_ := B1; (go_at_call 100; refine (l05Square_any _ _ _ _ _ _ _ _ _ _ _ _ ⟨(H.out.1.below (B := w.heap.size) (by first | exact Below.refl _ _ | (go_grown; done) | exact bdrewN (by go_grown) _) (Nat.le_refl _)), (H.out.2.below (B := w.heap.size) (by first | exact Below.refl _ _ | (go_grown; done) | exact bdrewN (by go_grown) _) (Nat.le_refl _))⟩ R.out f0 f1).mono ?_; rintro e w2 ⟨rfl, hb2⟩; obtain ⟨B2, hz2, q2, s2, t2, x2, y2, z2⟩ := bkeep (w := w) [w.heap.size, w.heap.size + 1] (by first | (simp; done) | (simp; omega)) (by first | (go_grown; done) | exact bdrewN (by go_grown) _) hb2; (try simp at hz2); clear hb2))
        | (go_at_call 100; refine (l05Square_any _ _ _ _ _ _ _ _ _ _ _ _ ⟨(H.out.1.below (B := w.heap.size) (by first | exact Below.refl _ _ | (go_grown; done) | exact bdrewN (by go_grown) _) (Nat.le_refl _)), (H.out.2.below (B := w.heap.size) (by first | exact Below.refl _ _ | (go_grown; done) | exact bdrewN (by go_grown) _) (Nat.le_refl _))⟩ R.out n0 n1).mono ?_; rintro e w1 ⟨rfl, hb1⟩; obtain ⟨B1, hz1, q1, s1, t1, x1, y1, z1⟩ := bkeep (w := w) [w.heap.size, w.heap.size + 1] (by first | (simp; done) | (simp; omega)) (by first | (go_grown; done) | exact bdrewN (by go_grown) _) hb1; (try simp at hz1); clear hb1))
      go_ret
      exact ⟨ret_int (by rw [HE.out]; rfl), (by first | with_reducible exact B2 | (go_grown; done) | with_reducible exact bdrewN B2 _ | (go_grown <;> first | with_reducible exact bdrewN B2 _ | with_reducible exact B2))⟩
  · have d1 : decide (sqI ss src co hy n ≤ 0) = true := decide_eq_true (by rw [h1] at p1; have := of_decide_eq_false p1; omega)
    have he : vdI ss src co hy n f = 0 := by unfold vdI; rw [h1]; rfl
    have H := Lib.hid h; have R := Lib.hid r; have HE := Lib.hid he; clear h r h1 he p1 p2
    go_enter Tryz.func90, Tryz.ntmps90
    go_wp2_with (first
      | (go_at_call 83; refine (HEnds _).mono ?_; rintro e w' ⟨rfl, rfl⟩)
      | (go_at_call 100; refine (l05Square_any _ _ _ _ _ _ _ _ _ _ _ _ ⟨(H.out.1.below (B := w.heap.size) (by first | exact Below.refl _ _ | (go_grown; done) | exact bdrewN (by go_grown) _) (Nat.le_refl _)), (H.out.2.below (B := w.heap.size) (by first | exact Below.refl _ _ | (go_grown; done) | exact bdrewN (by go_grown) _) (Nat.le_refl _))⟩ R.out n0 n1).mono ?_; rintro e w1 ⟨rfl, hb1⟩; obtain ⟨B1, hz1, q1, s1, t1, x1, y1, z1⟩ := bkeep (w := w) [w.heap.size, w.heap.size + 1] (by first | (simp; done) | (simp; omega)) (by first | (go_grown; done) | exact bdrewN (by go_grown) _) hb1; (try simp at hz1); clear hb1))
    go_ret
    exact ⟨ret_int (by rw [HE.out]), (by first | with_reducible exact B1 | (go_grown; done) | with_reducible exact bdrewN B1 _ | (go_grown <;> first | with_reducible exact bdrewN B1 _ | with_reducible exact B1))⟩
@[irreducible] def lvI (ds ss : List Int) (src co si hy l : Int) (ab : Bool) : Int := if arcE ds ss src co si hy l = 0 then vdI ss src co hy (nearK l ab) (farK l ab) else 0
end Go.Proofs.YtopggkomkfjbfaaGreat
