/- Scaled sines, by the program and by the reference. -/
import Derived.Test.YtopggkomkfjbfaaGreatState
namespace Go.Proofs.YtopggkomkfjbfaaGreat
set_option linter.unusedSimpArgs false
set_option linter.unusedVariables false
open Go.RowKit

theorem sq_diff (a b : Int) : (a - b) * (a + b) = a * a - b * b := by rw [Int.sub_mul, Int.mul_add, Int.mul_add, Int.mul_comm b a]; omega
/-- where a knot can be crossed, the square lies in its range -/
theorem sqI_range {ds ss : List Int} {src co si hy k : Int} (r : RayOk ds ss src co si hy) (k0 : 0 ≤ k) (k1 : k < ss.length) (hc : canB ss src co hy k = true) : 0 < sqI ss src co hy k ∧ sqI ss src co hy k ≤ 2890000000000000000 := by
  have h1 := sqI_pos r k0 k1
  rw [hc] at h1
  have a := r.whole; have b := r.part k0 k1
  refine ⟨of_decide_eq_true h1, ?_⟩
  unfold sqI
  rw [sq_diff]
  have := sq_mono (a := hy * spd ss src) (b := 1700000000) (by omega) a.2
  have := Int.mul_nonneg (show 0 ≤ co * spd ss k by omega) (show 0 ≤ co * spd ss k by omega)
  omega
def sinLo (ss : List Int) (src co hy k : Int) : Int := rt (sqI ss src co hy k)
def sinHi (ss : List Int) (src co hy k : Int) : Int := rtUp (sqI ss src co hy k)

theorem whole_eq (A1 A2 : Option Addr) (n1 c1 c2 : Nat) (ss : List Int) (src co si hy P : Int) (w : World) (h : IntsAt w A2 c2 ss) (h0 : 0 ≤ src) (h1 : src < ss.length) (b : 1300000 ≤ P ∧ P ≤ 1700000000) (hP : hy * spd ss src = P) :
    Calls Tryz.prog 99 #[rayV A1 n1 c1 A2 ss.length c2 src co si hy] w fun e w' => e = .returned (.int .i64 P) ∧ Below w.heap.size w w' := by
  subst hP; exact whole_any A1 A2 n1 c1 c2 ss src co si hy w h h0 h1 b
theorem part_eq (A1 A2 : Option Addr) (n1 c1 c2 : Nat) (ss : List Int) (src co si hy k Q : Int) (w : World) (h : IntsAt w A2 c2 ss) (h0 : 0 ≤ k) (h1 : k < ss.length) (b : 1300000 ≤ Q ∧ Q ≤ 1700000000) (hQ : co * spd ss k = Q) :
    Calls Tryz.prog 94 #[rayV A1 n1 c1 A2 ss.length c2 src co si hy, .int .i64 k] w fun e w' => e = .returned (.int .i64 Q) ∧ Below w.heap.size w w' := by
  subst hQ; exact part_any A1 A2 n1 c1 c2 ss src co si hy k w h h0 h1 b
set_option maxHeartbeats 1000000 in
theorem sine_any (A1 A2 : Option Addr) (n1 c1 c2 : Nat) (ds ss : List Int) (src co si hy k : Int) (w : World) (h : IntsAt w A2 c2 ss) (r : RayOk ds ss src co si hy) (k0 : 0 ≤ k) (k1 : k < ss.length) (hc : canB ss src co hy k = true) :
    Calls Tryz.prog 95 #[rayV A1 n1 c1 A2 ss.length c2 src co si hy, .int .i64 k] w fun e w' => e = .returned (ivV (sinLo ss src co hy k) (sinHi ss src co hy k)) ∧ Below w.heap.size w w' := by
  obtain ⟨g0, g1⟩ := sqI_range r k0 k1 hc
  have he1 : sinLo ss src co hy k = rt (sqI ss src co hy k) := rfl
  have he2 : sinHi ss src co hy k = rtUp (sqI ss src co hy k) := rfl
  unfold sqI at g0 g1 he1 he2
  rw [sq_diff] at g0 g1 he1 he2
  have a := r.whole; have b := r.part k0 k1
  have sr0 := r.s0; have sr1 := r.s1
  obtain ⟨P, hP⟩ : ∃ P, hy * spd ss src = P := ⟨_, rfl⟩
  obtain ⟨Q, hQ⟩ : ∃ Q, co * spd ss k = Q := ⟨_, rfl⟩
  rw [hP, hQ] at g0 g1 he1 he2
  rw [hP] at a; rw [hQ] at b
  have p1 := sq_mono (a := P) (b := 1700000000) (by omega) a.2
  have p2 := sq_mono (a := Q) (b := 1700000000) (by omega) b.2
  have p3 := Int.mul_nonneg (show 0 ≤ P by omega) (show 0 ≤ P by omega)
  have p4 := Int.mul_nonneg (show 0 ≤ Q by omega) (show 0 ≤ Q by omega)
  have H := Lib.hid h; have E1 := Lib.hid he1; have E2 := Lib.hid he2; have HP := Lib.hid hP; have HQ := Lib.hid hQ; clear h r he1 he2 hP hQ hc
  go_enter Tryz.func95, Tryz.ntmps95
  go_wp2_with fail
  refine genS (S := fun w' => Below w.heap.size w w' ∧ w.heap.size + 1 < w'.heap.size ∧ w'.cell? ⟨w.heap.size, 0, none⟩ = some (.slice A1 n1 c1) ∧ w'.cell? ⟨w.heap.size, 1, none⟩ = some (.slice A2 ss.length c2) ∧ w'.cell? ⟨w.heap.size, 2, none⟩ = some (.int .i64 src) ∧ w'.cell? ⟨w.heap.size, 3, none⟩ = some (.int .i64 co) ∧ w'.cell? ⟨w.heap.size, 4, none⟩ = some (.int .i64 si) ∧ w'.cell? ⟨w.heap.size, 5, none⟩ = some (.int .i64 hy) ∧ w'.cell? ⟨w.heap.size + 1, 0, none⟩ = some (.int .i64 0) ∧ w'.cell? ⟨w.heap.size + 1, 1, none⟩ = some (.int .i64 0) ∧ (∀ o, w'.frozen? ⟨w.heap.size + 1, o, none⟩ = false)) ⟨by go_grown, by simp, by simp [*, go_sem], by simp [*, go_sem], by simp [*, go_sem], by simp [*, go_sem], by simp [*, go_sem], by simp [*, go_sem], by simp [*, go_sem], by simp [*, go_sem], fun o => by simp [*, go_sem]⟩ ?_
  rintro w0 ⟨B0, lt0, r0, r1, r2, r3, r4, r5, r6, r7, r8⟩
  have z0 : w.heap.size ≤ w0.heap.size := B0.size
  have W1 : IntKind.i64.wrap (P * P) = P * P := IntWalk.i64_in _ (by omega)
  have W2 : IntKind.i64.wrap (Q * Q) = Q * Q := IntWalk.i64_in _ (by omega)
  have W3 : IntKind.i64.wrap (P * P - Q * Q) = P * P - Q * Q := IntWalk.i64_in _ (by omega)
  go_region_held3 (fun w' => w'.cell? ⟨w.heap.size, 0, none⟩ = some (.slice A1 n1 c1) ∧ w'.cell? ⟨w.heap.size, 1, none⟩ = some (.slice A2 ss.length c2) ∧ w'.cell? ⟨w.heap.size, 2, none⟩ = some (.int .i64 src) ∧ w'.cell? ⟨w.heap.size, 3, none⟩ = some (.int .i64 co) ∧ w'.cell? ⟨w.heap.size, 4, none⟩ = some (.int .i64 si) ∧ w'.cell? ⟨w.heap.size, 5, none⟩ = some (.int .i64 hy)) (first | (go_keep; done) | (simp [*, go_sem]; done))
    (first
      | (have hq_ := B1; (go_at_call 99; refine (whole_eq _ _ _ _ _ _ _ _ _ _ P _ (H.out.below (B := w.heap.size) (by first | exact Below.refl _ _ | (go_grown; done) | exact bdrewN (by go_grown) _) (Nat.le_refl _)) sr0 sr1 a HP.out).mono ?_; rintro e w2 ⟨rfl, hb2⟩; obtain ⟨B2, hz2, q2, s2, t2, x2, y2, z2⟩ := bkeep (w := w) [w.heap.size, w.heap.size + 1] (by first | (simp; done) | (simp; omega)) (by first | (go_grown; done) | exact bdrewN (by go_grown) _) hb2; (try simp at hz2); clear hb2))
      | (go_at_call 99; refine (whole_eq _ _ _ _ _ _ _ _ _ _ P _ (H.out.below (B := w.heap.size) (by first | exact Below.refl _ _ | (go_grown; done) | exact bdrewN (by go_grown) _) (Nat.le_refl _)) sr0 sr1 a HP.out).mono ?_; rintro e w1 ⟨rfl, hb1⟩; obtain ⟨B1, hz1, q1, s1, t1, x1, y1, z1⟩ := bkeep (w := w) [w.heap.size, w.heap.size + 1] (by first | (simp; done) | (simp; omega)) (by first | (go_grown; done) | exact bdrewN (by go_grown) _) hb1; (try simp at hz1); clear hb1)
      | (have hq_ := B3; (go_at_call 94; refine (part_eq _ _ _ _ _ _ _ _ _ _ _ Q _ (H.out.below (B := w.heap.size) (by first | exact Below.refl _ _ | (go_grown; done) | exact bdrewN (by go_grown) _) (Nat.le_refl _)) k0 k1 b HQ.out).mono ?_; rintro e w4 ⟨rfl, hb4⟩; obtain ⟨B4, hz4, q4, s4, t4, x4, y4, z4⟩ := bkeep (w := w) [w.heap.size, w.heap.size + 1] (by first | (simp; done) | (simp; omega)) (by first | (go_grown; done) | exact bdrewN (by go_grown) _) hb4; (try simp at hz4); clear hb4))
      | (go_at_call 94; refine (part_eq _ _ _ _ _ _ _ _ _ _ _ Q _ (H.out.below (B := w.heap.size) (by first | exact Below.refl _ _ | (go_grown; done) | exact bdrewN (by go_grown) _) (Nat.le_refl _)) k0 k1 b HQ.out).mono ?_; rintro e w3 ⟨rfl, hb3⟩; obtain ⟨B3, hz3, q3, s3, t3, x3, y3, z3⟩ := bkeep (w := w) [w.heap.size, w.heap.size + 1] (by first | (simp; done) | (simp; omega)) (by first | (go_grown; done) | exact bdrewN (by go_grown) _) hb3; (try simp at hz3); clear hb3))
  clear W1 W2 W3
  go_wp2_with (first
    | (go_at_call 104; refine (rootDown_any _ _ (by omega) (by omega)).mono ?_; rintro e w' ⟨rfl, rfl⟩)
    | (go_at_call 105; refine (rootUp_any _ _ (by omega) (by omega)).mono ?_; rintro e w' ⟨rfl, rfl⟩))
  refine bodyPost_ret (by simp [results, Tryz.results95, go_sem, *] <;> rfl) rfl ?_
  exact ⟨by rw [E1.out, E2.out], (by first | with_reducible exact B4 | (go_grown; done) | with_reducible exact bdrewN B4 _ | (go_grown <;> first | with_reducible exact bdrewN B4 _ | with_reducible exact B4))⟩
set_option maxHeartbeats 1000000 in
theorem l05Sine_any (A1 A2 : Option Addr) (c1 c2 : Nat) (ds ss : List Int) (src co si hy k : Int) (w : World) (h : ProfAt w A1 c1 A2 c2 ds ss) (r : RayOk ds ss src co si hy) (k0 : 0 ≤ k) (k1 : k < ss.length) (hc : canB ss src co hy k = true) :
    Calls Tryz.prog 101 #[profV A1 ds.length c1 A2 ss.length c2, .int .i64 src, dirV co si hy, .int .i64 k] w fun e w' => e = .returned (ivV (sinLo ss src co hy k) (sinHi ss src co hy k)) ∧ Below w.heap.size w w' := by
  obtain ⟨g0, g1⟩ := sqI_range r k0 k1 hc
  have H := Lib.hid h; have R := Lib.hid r; clear h r hc
  go_enter Tryz.func101, Tryz.ntmps101
  go_wp2_with (first
    | (go_at_call 100; refine (l05Square_any _ _ _ _ _ _ _ _ _ _ _ _ ⟨(H.out.1.below (B := w.heap.size) (by first | exact Below.refl _ _ | (go_grown; done) | exact bdrewN (by go_grown) _) (Nat.le_refl _)), (H.out.2.below (B := w.heap.size) (by first | exact Below.refl _ _ | (go_grown; done) | exact bdrewN (by go_grown) _) (Nat.le_refl _))⟩ R.out k0 k1).mono ?_; rintro e w1 ⟨rfl, hb1⟩; obtain ⟨B1, hz1, q1, s1, t1, x1, y1, z1⟩ := bkeep (w := w) [w.heap.size, w.heap.size + 1, w.heap.size + 2] (by first | (simp; done) | (simp; omega)) (by first | (go_grown; done) | exact bdrewN (by go_grown) _) hb1; (try simp at hz1); clear hb1)
    | (go_at_call 106; refine (l01Root_any _ _ (by omega) (by omega)).mono ?_; rintro e w' ⟨rfl, rfl⟩)
    | (go_at_call 107; refine (l01RootUp_any _ _ (by omega) (by omega)).mono ?_; rintro e w' ⟨rfl, rfl⟩))
  refine bodyPost_ret (by simp [results, Tryz.results101, go_sem, *] <;> rfl) rfl ?_
  exact ⟨rfl, (by first | with_reducible exact B1 | (go_grown; done) | with_reducible exact bdrewN B1 _ | (go_grown <;> first | with_reducible exact bdrewN B1 _ | with_reducible exact B1))⟩
end Go.Proofs.YtopggkomkfjbfaaGreat
