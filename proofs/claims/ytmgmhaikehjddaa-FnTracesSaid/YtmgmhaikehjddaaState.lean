/- States of rays: the first state, what a state is; by the program and by the reference. -/
import Derived.Test.YtmgmhaikehjddaaCross
namespace Go.Proofs.Ytmgmhaikehjddaa
set_option linter.unusedSimpArgs false
set_option linter.unusedVariables false
open Go.RowKit

abbrev rsV (k : Int) (dn : Bool) (lo hi : Int) : Value := .agg #[.int .i64 k, .bool dn, .int .i64 lo, .int .i64 hi]
@[go_sem] theorem rsV_def (k : Int) (dn : Bool) (lo hi : Int) : rsV k dn lo hi = .agg #[.int .i64 k, .bool dn, .int .i64 lo, .int .i64 hi] := rfl
@[irreducible] def fsK (ds ss : List Int) (src co si hy : Int) : Int := if rayE ds ss src co si hy 0 = 0 then src else 0
@[irreducible] def fsD (ds ss : List Int) (src co si hy : Int) : Bool := decide (rayE ds ss src co si hy 0 = 0) && decide (0 < si)

set_option maxHeartbeats 400000 in
theorem l07First_any (src co si hy : Int) (w : World) :
    Calls Try.prog 139 #[.int .i64 src, dirV co si hy] w fun e w' => e = .returned (rsV src (decide (0 < si)) 0 0) ∧ Below w.heap.size w w' := by
  go_enter Try.func139, Try.ntmps139
  go_wp2
  go_returns
  exact ⟨rfl, by go_grown⟩
set_option maxHeartbeats 400000 in
theorem first_any (A1 A2 : Option Addr) (n1 c1 n2 c2 : Nat) (src co si hy : Int) (w : World) :
    Calls Try.prog 138 #[rayV A1 n1 c1 A2 n2 c2 src co si hy] w fun e w' => e = .returned (rsV src (decide (0 < si)) 0 0) ∧ Below w.heap.size w w' := by
  go_enter Try.func138, Try.ntmps138
  go_wp2
  go_returns
  exact ⟨rfl, by go_grown⟩
set_option maxHeartbeats 1000000 in
theorem specFirstState_any (A1 A2 : Option Addr) (c1 c2 : Nat) (ds ss : List Int) (src co si hy : Int) (w : World) (h : ProfAt w A1 c1 A2 c2 ds ss) :
    Calls Try.prog 50 #[profV A1 ds.length c1 A2 ss.length c2, .int .i64 src, dirV co si hy] w fun e w' => e = .returned (.tuple #[rsV (fsK ds ss src co si hy) (fsD ds ss src co si hy) 0 0, .int .i64 (rayE ds ss src co si hy 0)]) ∧ Below w.heap.size w w' := by
  by_cases h0 : rayE ds ss src co si hy 0 = 0
  · have e1 : fsK ds ss src co si hy = src := by unfold fsK; rw [if_pos h0]
    have e2 : fsD ds ss src co si hy = decide (0 < si) := by unfold fsD; rw [decide_eq_true h0]; rfl
    have hE : (rayE ds ss src co si hy 0 != 0) = false := by rw [h0]; rfl
    have H := Lib.hid h; have E1 := Lib.hid e1; have E2 := Lib.hid e2; have H0 := Lib.hid h0; clear h e1 e2 h0
    go_enter Try.func50, Try.ntmps50
    go_wp2_with (first
      | (go_at_call 135; refine (l05Code_any _ _ _ _ _ _ _ _ _ _ _ _ ⟨(H.out.1.below (B := w.heap.size) (by first | exact Below.refl _ _ | (go_grown; done) | exact bdrewN (by go_grown) _) (Nat.le_refl _)), (H.out.2.below (B := w.heap.size) (by first | exact Below.refl _ _ | (go_grown; done) | exact bdrewN (by go_grown) _) (Nat.le_refl _))⟩).mono ?_; rintro e w1 ⟨rfl, hb1⟩; obtain ⟨B1, hz1, q1, s1, t1, x1, y1, z1⟩ := bkeep (w := w) [w.heap.size, w.heap.size + 1, w.heap.size + 2] (by first | (simp; done) | (simp; omega)) (by first | (go_grown; done) | exact bdrewN (by go_grown) _) hb1; (try simp at hz1); clear hb1)
      | (go_at_call 139; refine (l07First_any _ _ _ _ _).mono ?_; rintro e w2 ⟨rfl, hb2⟩; obtain ⟨B2, hz2, q2, s2, t2, x2, y2, z2⟩ := bkeep (w := w) [w.heap.size, w.heap.size + 1, w.heap.size + 2] (by first | (simp; done) | (simp; omega)) (by first | (go_grown; done) | exact bdrewN (by go_grown) _) hb2; (try simp at hz2); clear hb2))
    have c0 : w2.cell? ⟨w.heap.size + 1 + 1, 0, none⟩ = some (.int .i64 0) := by simp [*, go_sem]
    have c1 : w2.cell? ⟨w.heap.size + 1 + 1, 1, none⟩ = some (.bool false) := by simp [*, go_sem]
    have c2 : w2.cell? ⟨w.heap.size + 1 + 1, 2, none⟩ = some (.int .i64 0) := by simp [*, go_sem]
    have c3 : w2.cell? ⟨w.heap.size + 1 + 1, 3, none⟩ = some (.int .i64 0) := by simp [*, go_sem]
    clear q1 q2
    refine bodyPost_ret (by simp [results, Try.results50, go_sem, *] <;> rfl) rfl ?_
    exact ⟨by rw [E1.out, E2.out, H0.out], (by first | with_reducible exact B2 | (go_grown; done) | with_reducible exact bdrewN B2 _ | (go_grown <;> first | with_reducible exact bdrewN B2 _ | with_reducible exact B2))⟩
  · have e1 : fsK ds ss src co si hy = 0 := by unfold fsK; rw [if_neg h0]
    have e2 : fsD ds ss src co si hy = false := by unfold fsD; rw [decide_eq_false h0]; rfl
    have hE : (rayE ds ss src co si hy 0 != 0) = true := by simpa using h0
    have H := Lib.hid h; have E1 := Lib.hid e1; have E2 := Lib.hid e2; clear h e1 e2 h0
    go_enter Try.func50, Try.ntmps50
    go_wp2_with (go_at_call 135; refine (l05Code_any _ _ _ _ _ _ _ _ _ _ _ _ ⟨(H.out.1.below (B := w.heap.size) (by first | exact Below.refl _ _ | (go_grown; done) | exact bdrewN (by go_grown) _) (Nat.le_refl _)), (H.out.2.below (B := w.heap.size) (by first | exact Below.refl _ _ | (go_grown; done) | exact bdrewN (by go_grown) _) (Nat.le_refl _))⟩).mono ?_; rintro e w1 ⟨rfl, hb1⟩; obtain ⟨B1, hz1, q1, s1, t1, x1, y1, z1⟩ := bkeep (w := w) [w.heap.size, w.heap.size + 1, w.heap.size + 2] (by first | (simp; done) | (simp; omega)) (by first | (go_grown; done) | exact bdrewN (by go_grown) _) hb1; (try simp at hz1); clear hb1)
    have c0 : w1.cell? ⟨w.heap.size + 1 + 1, 0, none⟩ = some (.int .i64 0) := by simp [*, go_sem]
    have c1 : w1.cell? ⟨w.heap.size + 1 + 1, 1, none⟩ = some (.bool false) := by simp [*, go_sem]
    have c2 : w1.cell? ⟨w.heap.size + 1 + 1, 2, none⟩ = some (.int .i64 0) := by simp [*, go_sem]
    have c3 : w1.cell? ⟨w.heap.size + 1 + 1, 3, none⟩ = some (.int .i64 0) := by simp [*, go_sem]
    clear q1
    refine bodyPost_ret (by simp [results, Try.results50, go_sem, *] <;> rfl) rfl ?_
    exact ⟨by rw [E1.out, E2.out], (by first | with_reducible exact B1 | (go_grown; done) | with_reducible exact bdrewN B1 _ | (go_grown <;> first | with_reducible exact bdrewN B1 _ | with_reducible exact B1))⟩
set_option maxHeartbeats 1000000 in
theorem implFirstState_any (A1 A2 : Option Addr) (c1 c2 : Nat) (ds ss : List Int) (src co si hy : Int) (w : World) (h : ProfAt w A1 c1 A2 c2 ds ss) :
    Calls Try.prog 49 #[profV A1 ds.length c1 A2 ss.length c2, .int .i64 src, dirV co si hy] w fun e w' => e = .returned (.tuple #[rsV (fsK ds ss src co si hy) (fsD ds ss src co si hy) 0 0, .int .i64 (rayE ds ss src co si hy 0)]) ∧ Below w.heap.size w w' := by
  by_cases h0 : rayE ds ss src co si hy 0 = 0
  · have e1 : fsK ds ss src co si hy = src := by unfold fsK; rw [if_pos h0]
    have e2 : fsD ds ss src co si hy = decide (0 < si) := by unfold fsD; rw [decide_eq_true h0]; rfl
    have r := rayOk_zero h0
    have H := Lib.hid h; have E1 := Lib.hid e1; have E2 := Lib.hid e2; have H0 := Lib.hid h0; have R := Lib.hid r; clear h e1 e2 h0 r
    go_enter Try.func49, Try.ntmps49
    go_wp2_with (first
      | (go_at_call 132; refine (newRay_ok _ _ _ _ _ _ _ _ _ _ _ ⟨(H.out.1.below (B := w.heap.size) (by first | exact Below.refl _ _ | (go_grown; done) | exact bdrewN (by go_grown) _) (Nat.le_refl _)), (H.out.2.below (B := w.heap.size) (by first | exact Below.refl _ _ | (go_grown; done) | exact bdrewN (by go_grown) _) (Nat.le_refl _))⟩ R.out).mono ?_; rintro e w1 ⟨rfl, hb1⟩; obtain ⟨B1, hz1, q1, s1, t1, x1, y1, z1⟩ := bkeep (w := w) [w.heap.size, w.heap.size + 1, w.heap.size + 2] (by first | (simp; done) | (simp; omega)) (by first | (go_grown; done) | exact bdrewN (by go_grown) _) hb1; (try simp at hz1); clear hb1)
      | (go_at_call 138; refine (first_any _ _ _ _ _ _ _ _ _ _ _).mono ?_; rintro e w2 ⟨rfl, hb2⟩; obtain ⟨B2, hz2, q2, s2, t2, x2, y2, z2⟩ := bkeep (w := w) [w.heap.size, w.heap.size + 1, w.heap.size + 2] (by first | (simp; done) | (simp; omega)) (by first | (go_grown; done) | exact bdrewN (by go_grown) _) hb2; (try simp at hz2); clear hb2))
    have c0 : w2.cell? ⟨w.heap.size + 1 + 1, 0, none⟩ = some (.int .i64 0) := by simp [*, go_sem]
    have c1 : w2.cell? ⟨w.heap.size + 1 + 1, 1, none⟩ = some (.bool false) := by simp [*, go_sem]
    have c2 : w2.cell? ⟨w.heap.size + 1 + 1, 2, none⟩ = some (.int .i64 0) := by simp [*, go_sem]
    have c3 : w2.cell? ⟨w.heap.size + 1 + 1, 3, none⟩ = some (.int .i64 0) := by simp [*, go_sem]
    clear q1 q2
    refine bodyPost_ret (by simp [results, Try.results49, go_sem, *] <;> rfl) rfl ?_
    exact ⟨by rw [E1.out, E2.out, H0.out], (by first | with_reducible exact B2 | (go_grown; done) | with_reducible exact bdrewN B2 _ | (go_grown <;> first | with_reducible exact bdrewN B2 _ | with_reducible exact B2))⟩
  · have e1 : fsK ds ss src co si hy = 0 := by unfold fsK; rw [if_neg h0]
    have e2 : fsD ds ss src co si hy = false := by unfold fsD; rw [decide_eq_false h0]; rfl
    have hE : (rayE ds ss src co si hy 0 != 0) = true := by simpa using h0
    have H := Lib.hid h; have E1 := Lib.hid e1; have E2 := Lib.hid e2; have H0 := Lib.hid h0; clear h e1 e2 h0
    go_enter Try.func49, Try.ntmps49
    go_wp2_with (go_at_call 132; refine (newRay_bad _ _ _ _ _ _ _ _ _ _ _ ⟨(H.out.1.below (B := w.heap.size) (by first | exact Below.refl _ _ | (go_grown; done) | exact bdrewN (by go_grown) _) (Nat.le_refl _)), (H.out.2.below (B := w.heap.size) (by first | exact Below.refl _ _ | (go_grown; done) | exact bdrewN (by go_grown) _) (Nat.le_refl _))⟩ H0.out).mono ?_; rintro e w1 ⟨rfl, hb1⟩; obtain ⟨B1, hz1, q1, s1, t1, x1, y1, z1⟩ := bkeep (w := w) [w.heap.size, w.heap.size + 1, w.heap.size + 2] (by first | (simp; done) | (simp; omega)) (by first | (go_grown; done) | exact bdrewN (by go_grown) _) hb1; (try simp at hz1); clear hb1)
    have c0 : w1.cell? ⟨w.heap.size + 1 + 1, 0, none⟩ = some (.int .i64 0) := by simp [*, go_sem]
    have c1 : w1.cell? ⟨w.heap.size + 1 + 1, 1, none⟩ = some (.bool false) := by simp [*, go_sem]
    have c2 : w1.cell? ⟨w.heap.size + 1 + 1, 2, none⟩ = some (.int .i64 0) := by simp [*, go_sem]
    have c3 : w1.cell? ⟨w.heap.size + 1 + 1, 3, none⟩ = some (.int .i64 0) := by simp [*, go_sem]
    clear q1
    refine bodyPost_ret (by simp [results, Try.results49, go_sem, *] <;> rfl) rfl ?_
    exact ⟨by rw [E1.out, E2.out], (by first | with_reducible exact B1 | (go_grown; done) | with_reducible exact bdrewN B1 _ | (go_grown <;> first | with_reducible exact bdrewN B1 _ | with_reducible exact B1))⟩

/-! intervals -/
def isV (x : Int) : Bool := inB x (-1000000000000) 1000000000000
def isI (a b : Int) : Bool := isV a && isV b && decide (a ≤ b)
set_option maxHeartbeats 400000 in
theorem isValue_any (x : Int) (w : World) :
    Calls Try.prog 214 #[.int .i64 x] w fun e w' => e = .returned (.bool (isV x)) ∧ w = w' := by
  go_enter Try.func214, Try.ntmps214
  go_wp2_with (go_at_call 171; refine (within_any _ _ _ _).mono ?_; rintro e w' ⟨rfl, rfl⟩)
  go_ret
  exact ⟨rfl, rfl⟩
set_option maxHeartbeats 400000 in
theorem l01Is_any (x : Int) (w : World) :
    Calls Try.prog 200 #[.int .i64 x] w fun e w' => e = .returned (.bool (isV x)) ∧ w = w' := by
  go_enter Try.func200, Try.ntmps200
  go_wp2_with (go_at_call 173; refine (l01In_any _ _ _ _).mono ?_; rintro e w' ⟨rfl, rfl⟩)
  go_ret
  exact ⟨rfl, rfl⟩
set_option maxHeartbeats 1000000 in
theorem implIsInterval_any (a b : Int) (w : World) :
    Calls Try.prog 197 #[ivV a b] w fun e w' => e = .returned (.bool (isI a b)) ∧ Below w.heap.size w w' := by
  rcases Bool.eq_false_or_eq_true (isV a) with h1 | h1 <;> rcases Bool.eq_false_or_eq_true (isV b) with h2 | h2
  all_goals
    go_enter Try.func197, Try.ntmps197
    go_wp2_with (go_at_call 214; refine (isValue_any _ _).mono ?_; rintro e w' ⟨rfl, rfl⟩)
    go_ret
    exact ⟨ret_bool (by simp [isI, h1, h2]), by go_grown⟩
set_option maxHeartbeats 1000000 in
theorem specIsInterval_any (a b : Int) (w : World) :
    Calls Try.prog 141 #[ivV a b] w fun e w' => e = .returned (.bool (isI a b)) ∧ Below w.heap.size w w' := by
  rcases Bool.eq_false_or_eq_true (isV a) with h1 | h1 <;> rcases Bool.eq_false_or_eq_true (isV b) with h2 | h2
  all_goals
    go_enter Try.func141, Try.ntmps141
    go_wp2_with (go_at_call 200; refine (l01Is_any _ _).mono ?_; rintro e w' ⟨rfl, rfl⟩)
    go_ret
    exact ⟨ret_bool (by simp [isI, h1, h2]), by go_grown⟩

/-! what a state is -/
def stB (ds ss : List Int) (src co si hy k lo hi : Int) : Bool := crossI ds ss src co si hy k && isI lo hi && decide (0 ≤ lo)
set_option maxHeartbeats 2000000 in
theorem isState_any (A1 A2 : Option Addr) (c1 c2 : Nat) (ds ss : List Int) (src co si hy k : Int) (dn : Bool) (lo hi : Int) (w : World) (h : IntsAt w A2 c2 ss) (r : RayOk ds ss src co si hy) (hn : ds.length ≤ 9223372036854775807) :
    Calls Try.prog 133 #[rayV A1 ds.length c1 A2 ss.length c2 src co si hy, rsV k dn lo hi] w fun e w' => e = .returned (.bool (stB ds ss src co si hy k lo hi)) ∧ Below w.heap.size w w' := by
  by_cases hk : 0 ≤ k ∧ k < ss.length
  · obtain ⟨k0, k1⟩ := hk
    have hin : inB k 0 ((ds.length : Int) - 1) = true := by have := r.l2; simp [inB]; omega
    have he : stB ds ss src co si hy k lo hi = (decide (co * spd ss k < hy * spd ss src) && isI lo hi && decide (0 ≤ lo)) := by
      unfold stB crossI canB; rw [decide_eq_true (rayE_ok r k0 k1)]; rfl
    have H := Lib.hid h; have R := Lib.hid r; have HE := Lib.hid he; clear h r he
    rcases Bool.eq_false_or_eq_true (decide (co * spd ss k < hy * spd ss src)) with h1 | h1 <;> rcases Bool.eq_false_or_eq_true (isI lo hi) with h2 | h2
    all_goals
      rw [h1, h2] at HE
      go_enter Try.func133, Try.ntmps133
      go_wp2_with (first
        | (go_at_call 186; refine (isKnot_any _ _ _ _ _ _ _ _ hn).mono ?_; rintro e w1 ⟨rfl, hb1⟩; obtain ⟨B1, hz1, q1, s1, t1, x1, y1, z1⟩ := bkeep (w := w) [w.heap.size, w.heap.size + 1] (by first | (simp; done) | (simp; omega)) (by first | (go_grown; done) | exact bdrewN (by go_grown) _) hb1; (try simp at hz1); clear hb1)
        | (go_at_call 194; refine (canCross_any _ _ _ _ _ _ _ _ _ _ _ _ _ (H.out.below (B := w.heap.size) (by first | exact Below.refl _ _ | (go_grown; done) | exact bdrewN (by go_grown) _) (Nat.le_refl _)) R.out k0 k1).mono ?_; rintro e w2 ⟨rfl, hb2⟩; obtain ⟨B2, hz2, q2, s2, t2, x2, y2, z2⟩ := bkeep (w := w) [w.heap.size, w.heap.size + 1] (by first | (simp; done) | (simp; omega)) (by first | (go_grown; done) | exact bdrewN (by go_grown) _) hb2; (try simp at hz2); clear hb2)
        | (go_at_call 197; refine (implIsInterval_any _ _ _).mono ?_; rintro e w3 ⟨rfl, hb3⟩; obtain ⟨B3, hz3, q3, s3, t3, x3, y3, z3⟩ := bkeep (w := w) [w.heap.size, w.heap.size + 1] (by first | (simp; done) | (simp; omega)) (by first | (go_grown; done) | exact bdrewN (by go_grown) _) hb3; (try simp at hz3); clear hb3))
      go_ret
      exact ⟨ret_bool (by rw [HE.out]; simp), by first | exact (by first | with_reducible exact B3 | (go_grown; done) | with_reducible exact bdrewN B3 _ | (go_grown <;> first | with_reducible exact bdrewN B3 _ | with_reducible exact B3)) | exact (by first | with_reducible exact B2 | (go_grown; done) | with_reducible exact bdrewN B2 _ | (go_grown <;> first | with_reducible exact bdrewN B2 _ | with_reducible exact B2)) | exact (by first | with_reducible exact B1 | (go_grown; done) | with_reducible exact bdrewN B1 _ | (go_grown <;> first | with_reducible exact bdrewN B1 _ | with_reducible exact B1))⟩
  · have hin : inB k 0 ((ds.length : Int) - 1) = false := by have := r.l2; have := r.l3; simp [inB]; omega
    have he : stB ds ss src co si hy k lo hi = false := by
      have : ¬ rayE ds ss src co si hy k = 0 := fun e => hk ⟨(ray_ok e).2.1, (ray_ok e).2.2⟩
      unfold stB crossI; rw [decide_eq_false this]; rfl
    have HE := Lib.hid he; clear h r he hk
    go_enter Try.func133, Try.ntmps133
    go_wp2_with (go_at_call 186; refine (isKnot_any _ _ _ _ _ _ _ _ hn).mono ?_; rintro e w1 ⟨rfl, hb1⟩; obtain ⟨B1, hz1, q1, s1, t1, x1, y1, z1⟩ := bkeep (w := w) [w.heap.size, w.heap.size + 1] (by first | (simp; done) | (simp; omega)) (by first | (go_grown; done) | exact bdrewN (by go_grown) _) hb1; (try simp at hz1); clear hb1)
    go_ret
    exact ⟨ret_bool (by rw [HE.out]), (by first | with_reducible exact B1 | (go_grown; done) | with_reducible exact bdrewN B1 _ | (go_grown <;> first | with_reducible exact bdrewN B1 _ | with_reducible exact B1))⟩
set_option maxHeartbeats 2000000 in
theorem implIsRayState_any (A1 A2 : Option Addr) (c1 c2 : Nat) (ds ss : List Int) (src co si hy k : Int) (dn : Bool) (lo hi : Int) (w : World) (h : ProfAt w A1 c1 A2 c2 ds ss) :
    Calls Try.prog 51 #[profV A1 ds.length c1 A2 ss.length c2, .int .i64 src, dirV co si hy, rsV k dn lo hi] w fun e w' => e = .returned (.bool (stB ds ss src co si hy k lo hi)) ∧ Below w.heap.size w w' := by
  have hn := Nat.le_trans h.1.1 h.1.2.1
  by_cases h0 : rayE ds ss src co si hy 0 = 0
  · have r := rayOk_zero h0
    have H := Lib.hid h; have H0 := Lib.hid h0; have R := Lib.hid r; clear h h0 r
    go_enter Try.func51, Try.ntmps51
    go_wp2_with (first
      | (go_at_call 132; refine (newRay_ok _ _ _ _ _ _ _ _ _ _ _ ⟨(H.out.1.below (B := w.heap.size) (by first | exact Below.refl _ _ | (go_grown; done) | exact bdrewN (by go_grown) _) (Nat.le_refl _)), (H.out.2.below (B := w.heap.size) (by first | exact Below.refl _ _ | (go_grown; done) | exact bdrewN (by go_grown) _) (Nat.le_refl _))⟩ R.out).mono ?_; rintro e w1 ⟨rfl, hb1⟩; obtain ⟨B1, hz1, q1, s1, t1, x1, y1, z1⟩ := bkeep (w := w) [w.heap.size, w.heap.size + 1, w.heap.size + 2] (by first | (simp; done) | (simp; omega)) (by first | (go_grown; done) | exact bdrewN (by go_grown) _) hb1; (try simp at hz1); clear hb1)
      | (go_at_call 133; refine (isState_any _ _ _ _ _ _ _ _ _ _ _ _ _ _ _ (H.out.2.below (B := w.heap.size) (by first | exact Below.refl _ _ | (go_grown; done) | exact bdrewN (by go_grown) _) (Nat.le_refl _)) R.out hn).mono ?_; rintro e w2 ⟨rfl, hb2⟩; obtain ⟨B2, hz2, q2, s2, t2, x2, y2, z2⟩ := bkeep (w := w) [w.heap.size, w.heap.size + 1, w.heap.size + 2] (by first | (simp; done) | (simp; omega)) (by first | (go_grown; done) | exact bdrewN (by go_grown) _) hb2; (try simp at hz2); clear hb2))
    go_ret
    exact ⟨rfl, (by first | with_reducible exact B2 | (go_grown; done) | with_reducible exact bdrewN B2 _ | (go_grown <;> first | with_reducible exact bdrewN B2 _ | with_reducible exact B2))⟩
  · have hE : (rayE ds ss src co si hy 0 == 0) = false := by simpa using h0
    have he : stB ds ss src co si hy k lo hi = false := by
      have : ¬ rayE ds ss src co si hy k = 0 := by rw [rayE_bad h0]; exact h0
      unfold stB crossI; rw [decide_eq_false this]; rfl
    have H := Lib.hid h; have H0 := Lib.hid h0; have HE := Lib.hid he; clear h h0 he
    go_enter Try.func51, Try.ntmps51
    go_wp2_with (go_at_call 132; refine (newRay_bad _ _ _ _ _ _ _ _ _ _ _ ⟨(H.out.1.below (B := w.heap.size) (by first | exact Below.refl _ _ | (go_grown; done) | exact bdrewN (by go_grown) _) (Nat.le_refl _)), (H.out.2.below (B := w.heap.size) (by first | exact Below.refl _ _ | (go_grown; done) | exact bdrewN (by go_grown) _) (Nat.le_refl _))⟩ H0.out).mono ?_; rintro e w1 ⟨rfl, hb1⟩; obtain ⟨B1, hz1, q1, s1, t1, x1, y1, z1⟩ := bkeep (w := w) [w.heap.size, w.heap.size + 1, w.heap.size + 2] (by first | (simp; done) | (simp; omega)) (by first | (go_grown; done) | exact bdrewN (by go_grown) _) hb1; (try simp at hz1); clear hb1)
    go_ret
    exact ⟨ret_bool HE.out.symm, (by first | with_reducible exact B1 | (go_grown; done) | with_reducible exact bdrewN B1 _ | (go_grown <;> first | with_reducible exact bdrewN B1 _ | with_reducible exact B1))⟩
set_option maxHeartbeats 2000000 in
theorem specIsRayState_any (A1 A2 : Option Addr) (c1 c2 : Nat) (ds ss : List Int) (src co si hy k : Int) (dn : Bool) (lo hi : Int) (w : World) (h : ProfAt w A1 c1 A2 c2 ds ss) :
    Calls Try.prog 52 #[profV A1 ds.length c1 A2 ss.length c2, .int .i64 src, dirV co si hy, rsV k dn lo hi] w fun e w' => e = .returned (.bool (stB ds ss src co si hy k lo hi)) ∧ Below w.heap.size w w' := by
  by_cases h0 : rayE ds ss src co si hy k = 0
  · obtain ⟨r, k0, k1⟩ := ray_ok h0
    have he : stB ds ss src co si hy k lo hi = (decide (0 < sqI ss src co hy k) && isI lo hi && decide (0 ≤ lo)) := by
      unfold stB crossI; rw [sqI_pos r k0 k1, decide_eq_true h0]; rfl
    have hE : (rayE ds ss src co si hy k == 0) = true := by rw [h0]; rfl
    have H := Lib.hid h; have R := Lib.hid r; have HE := Lib.hid he; clear h r he h0
    rcases Bool.eq_false_or_eq_true (decide (0 < sqI ss src co hy k)) with h1 | h1 <;> rcases Bool.eq_false_or_eq_true (isI lo hi) with h2 | h2
    all_goals
      rw [h1, h2] at HE
      go_enter Try.func52, Try.ntmps52
      go_wp2_with (first
        | (go_at_call 135; refine (l05Code_any _ _ _ _ _ _ _ _ _ _ _ _ ⟨(H.out.1.below (B := w.heap.size) (by first | exact Below.refl _ _ | (go_grown; done) | exact bdrewN (by go_grown) _) (Nat.le_refl _)), (H.out.2.below (B := w.heap.size) (by first | exact Below.refl _ _ | (go_grown; done) | exact bdrewN (by go_grown) _) (Nat.le_refl _))⟩).mono ?_; rintro e w1 ⟨rfl, hb1⟩; obtain ⟨B1, hz1, q1, s1, t1, x1, y1, z1⟩ := bkeep (w := w) [w.heap.size, w.heap.size + 1, w.heap.size + 2] (by first | (simp; done) | (simp; omega)) (by first | (go_grown; done) | exact bdrewN (by go_grown) _) hb1; (try simp at hz1); clear hb1)
        | (go_at_call 140; refine (l05Square_any _ _ _ _ _ _ _ _ _ _ _ _ ⟨(H.out.1.below (B := w.heap.size) (by first | exact Below.refl _ _ | (go_grown; done) | exact bdrewN (by go_grown) _) (Nat.le_refl _)), (H.out.2.below (B := w.heap.size) (by first | exact Below.refl _ _ | (go_grown; done) | exact bdrewN (by go_grown) _) (Nat.le_refl _))⟩ R.out k0 k1).mono ?_; rintro e w2 ⟨rfl, hb2⟩; obtain ⟨B2, hz2, q2, s2, t2, x2, y2, z2⟩ := bkeep (w := w) [w.heap.size, w.heap.size + 1, w.heap.size + 2] (by first | (simp; done) | (simp; omega)) (by first | (go_grown; done) | exact bdrewN (by go_grown) _) hb2; (try simp at hz2); clear hb2)
        | (go_at_call 141; refine (specIsInterval_any _ _ _).mono ?_; rintro e w3 ⟨rfl, hb3⟩; obtain ⟨B3, hz3, q3, s3, t3, x3, y3, z3⟩ := bkeep (w := w) [w.heap.size, w.heap.size + 1, w.heap.size + 2] (by first | (simp; done) | (simp; omega)) (by first | (go_grown; done) | exact bdrewN (by go_grown) _) hb3; (try simp at hz3); clear hb3))
      go_ret
      exact ⟨ret_bool (by rw [HE.out]; simp), by first | exact (by first | with_reducible exact B3 | (go_grown; done) | with_reducible exact bdrewN B3 _ | (go_grown <;> first | with_reducible exact bdrewN B3 _ | with_reducible exact B3)) | exact (by first | with_reducible exact B2 | (go_grown; done) | with_reducible exact bdrewN B2 _ | (go_grown <;> first | with_reducible exact bdrewN B2 _ | with_reducible exact B2)) | exact (by first | with_reducible exact B1 | (go_grown; done) | with_reducible exact bdrewN B1 _ | (go_grown <;> first | with_reducible exact bdrewN B1 _ | with_reducible exact B1))⟩
  · have hE : (rayE ds ss src co si hy k == 0) = false := by simpa using h0
    have he : stB ds ss src co si hy k lo hi = false := by unfold stB crossI; rw [decide_eq_false h0]; rfl
    have H := Lib.hid h; have HE := Lib.hid he; clear h he h0
    go_enter Try.func52, Try.ntmps52
    go_wp2_with (go_at_call 135; refine (l05Code_any _ _ _ _ _ _ _ _ _ _ _ _ ⟨(H.out.1.below (B := w.heap.size) (by first | exact Below.refl _ _ | (go_grown; done) | exact bdrewN (by go_grown) _) (Nat.le_refl _)), (H.out.2.below (B := w.heap.size) (by first | exact Below.refl _ _ | (go_grown; done) | exact bdrewN (by go_grown) _) (Nat.le_refl _))⟩).mono ?_; rintro e w1 ⟨rfl, hb1⟩; obtain ⟨B1, hz1, q1, s1, t1, x1, y1, z1⟩ := bkeep (w := w) [w.heap.size, w.heap.size + 1, w.heap.size + 2] (by first | (simp; done) | (simp; omega)) (by first | (go_grown; done) | exact bdrewN (by go_grown) _) hb1; (try simp at hz1); clear hb1)
    go_ret
    exact ⟨ret_bool HE.out.symm, (by first | with_reducible exact B1 | (go_grown; done) | with_reducible exact bdrewN B1 _ | (go_grown <;> first | with_reducible exact bdrewN B1 _ | with_reducible exact B1))⟩
end Go.Proofs.Ytmgmhaikehjddaa
