/- StepRay, by the program and by the reference. -/
import Derived.Test.YtmgmhaikehjddaaStep2
namespace Go.Proofs.Ytmgmhaikehjddaa
set_option linter.unusedSimpArgs false
set_option linter.unusedVariables false
open Go.RowKit

@[irreducible] def srE (ds ss : List Int) (src co si hy k : Int) (dn : Bool) (lo hi : Int) : Int := if rayE ds ss src co si hy 0 = 0 then (if stB ds ss src co si hy k lo hi then stE ds ss src co hy k dn lo hi else 2) else rayE ds ss src co si hy 0
@[irreducible] def srK (ds ss : List Int) (src co si hy k : Int) (dn : Bool) (lo hi : Int) : Int := if rayE ds ss src co si hy 0 = 0 ∧ stB ds ss src co si hy k lo hi = true then stK ds ss src co hy k dn lo hi else 0
@[irreducible] def srD (ds ss : List Int) (src co si hy k : Int) (dn : Bool) (lo hi : Int) : Bool := if rayE ds ss src co si hy 0 = 0 ∧ stB ds ss src co si hy k lo hi = true then stD ds ss src co hy k dn lo hi else false
@[irreducible] def srL (ds ss : List Int) (src co si hy k : Int) (dn : Bool) (lo hi : Int) : Int := if rayE ds ss src co si hy 0 = 0 ∧ stB ds ss src co si hy k lo hi = true then stL ds ss src co hy k dn lo hi else 0
@[irreducible] def srH (ds ss : List Int) (src co si hy k : Int) (dn : Bool) (lo hi : Int) : Int := if rayE ds ss src co si hy 0 = 0 ∧ stB ds ss src co si hy k lo hi = true then stH ds ss src co hy k dn lo hi else 0
@[irreducible] def srV (ds ss : List Int) (src co si hy k : Int) (dn : Bool) (lo hi : Int) : Int := if rayE ds ss src co si hy 0 = 0 ∧ stB ds ss src co si hy k lo hi = true then stV ds ss src co hy k dn lo hi else 0
structure SrIs (ds ss : List Int) (src co si hy k : Int) (dn : Bool) (lo hi : Int) (e v k' : Int) (d' : Bool) (l' h' : Int) : Prop where
  e : srE ds ss src co si hy k dn lo hi = e
  v : srV ds ss src co si hy k dn lo hi = v
  k' : srK ds ss src co si hy k dn lo hi = k'
  d' : srD ds ss src co si hy k dn lo hi = d'
  l' : srL ds ss src co si hy k dn lo hi = l'
  h' : srH ds ss src co si hy k dn lo hi = h'
theorem sr_ok {ds ss : List Int} {src co si hy k : Int} {dn : Bool} {lo hi : Int} (h0 : rayE ds ss src co si hy 0 = 0) (hb : stB ds ss src co si hy k lo hi = true) : SrIs ds ss src co si hy k dn lo hi (stE ds ss src co hy k dn lo hi) (stV ds ss src co hy k dn lo hi) (stK ds ss src co hy k dn lo hi) (stD ds ss src co hy k dn lo hi) (stL ds ss src co hy k dn lo hi) (stH ds ss src co hy k dn lo hi) := by
  constructor
  · unfold srE; rw [if_pos h0, if_pos hb]
  · unfold srV; rw [if_pos ⟨h0, hb⟩]
  · unfold srK; rw [if_pos ⟨h0, hb⟩]
  · unfold srD; rw [if_pos ⟨h0, hb⟩]
  · unfold srL; rw [if_pos ⟨h0, hb⟩]
  · unfold srH; rw [if_pos ⟨h0, hb⟩]
theorem sr_no {ds ss : List Int} {src co si hy k : Int} {dn : Bool} {lo hi : Int} (h : ¬ (rayE ds ss src co si hy 0 = 0 ∧ stB ds ss src co si hy k lo hi = true)) {e : Int} (he : srE ds ss src co si hy k dn lo hi = e) : SrIs ds ss src co si hy k dn lo hi e 0 0 false 0 0 := by
  refine ⟨he, ?_, ?_, ?_, ?_, ?_⟩
  · unfold srV; rw [if_neg h]
  · unfold srK; rw [if_neg h]
  · unfold srD; rw [if_neg h]
  · unfold srL; rw [if_neg h]
  · unfold srH; rw [if_neg h]
theorem stB_facts {ds ss : List Int} {src co si hy k : Int} {dn : Bool} {lo hi : Int} (r : RayOk ds ss src co si hy) (h : stB ds ss src co si hy k lo hi = true) : 0 ≤ k ∧ k < ss.length ∧ canB ss src co hy k = true ∧ -1000000000000 ≤ lo ∧ lo ≤ 1000000000000 ∧ -1000000000000 ≤ hi ∧ hi ≤ 1000000000000 := by
  unfold stB crossI isI isV at h
  simp only [Bool.and_eq_true, decide_eq_true_eq] at h
  obtain ⟨⟨⟨a, b⟩, ⟨⟨c, d⟩, e⟩⟩, f⟩ := h
  obtain ⟨-, k0, k1⟩ := ray_ok a
  have h1 := inB_bd c; have h2 := inB_bd d
  exact ⟨k0, k1, b, h1.1, h1.2, h2.1, h2.2⟩

set_option maxHeartbeats 4000000 in
theorem implStepRay_any (A1 A2 : Option Addr) (c1 c2 : Nat) (ds ss : List Int) (src co si hy k : Int) (dn : Bool) (lo hi : Int) (w : World) (h : ProfAt w A1 c1 A2 c2 ds ss) :
    Calls Try.prog 46 #[profV A1 ds.length c1 A2 ss.length c2, .int .i64 src, dirV co si hy, rsV k dn lo hi] w fun e w' => e = .returned (.tuple #[rsV (srK ds ss src co si hy k dn lo hi) (srD ds ss src co si hy k dn lo hi) (srL ds ss src co si hy k dn lo hi) (srH ds ss src co si hy k dn lo hi), .int .i64 (srV ds ss src co si hy k dn lo hi), .int .i64 (srE ds ss src co si hy k dn lo hi)]) ∧ Below w.heap.size w w' := by
  have hn := Nat.le_trans h.1.1 h.1.2.1
  by_cases h0 : rayE ds ss src co si hy 0 = 0
  · have r := rayOk_zero h0
    rcases Bool.eq_false_or_eq_true (stB ds ss src co si hy k lo hi) with hb | hb
    · obtain ⟨k0, k1, hc, b0, b1, b2, b3⟩ := stB_facts (dn := dn) r hb
      have s_ := sr_ok (dn := dn) h0 hb
      have H := Lib.hid h; have R := Lib.hid r; have SS := Lib.hid s_; have HC := Lib.hid hc; clear h r s_ hc h0
      go_enter Try.func46, Try.ntmps46
      go_wp2_with (first
        | (go_at_call 132; refine (newRay_ok _ _ _ _ _ _ _ _ _ _ _ ⟨(H.out.1.below (B := w.heap.size) (by first | exact Below.refl _ _ | (go_grown; done) | exact bdrewN (by go_grown) _) (Nat.le_refl _)), (H.out.2.below (B := w.heap.size) (by first | exact Below.refl _ _ | (go_grown; done) | exact bdrewN (by go_grown) _) (Nat.le_refl _))⟩ R.out).mono ?_; rintro e w1 ⟨rfl, hb1⟩; obtain ⟨B1, hz1, q1, s1, t1, x1, y1, z1⟩ := bkeep (w := w) [w.heap.size, w.heap.size + 1, w.heap.size + 2, w.heap.size + 3] (by first | (simp; done) | (simp; omega)) (by first | (go_grown; done) | exact bdrewN (by go_grown) _) hb1; (try simp at hz1); clear hb1)
        | (go_at_call 133; refine (isState_any _ _ _ _ _ _ _ _ _ _ _ _ _ _ _ (H.out.2.below (B := w.heap.size) (by first | exact Below.refl _ _ | (go_grown; done) | exact bdrewN (by go_grown) _) (Nat.le_refl _)) R.out hn).mono ?_; rintro e w2 ⟨rfl, hb2⟩; obtain ⟨B2, hz2, q2, s2, t2, x2, y2, z2⟩ := bkeep (w := w) [w.heap.size, w.heap.size + 1, w.heap.size + 2, w.heap.size + 3, w1.heap.size] (by first | (simp; done) | (simp; omega)) (by first | (go_grown; done) | exact bdrewN (by go_grown) _) hb2; (try simp at hz2); clear hb2)
        | (go_at_call 134; refine (implStep_any _ _ _ _ _ _ _ _ _ _ _ _ _ _ _ ⟨(H.out.1.below (B := w.heap.size) (by first | exact Below.refl _ _ | (go_grown; done) | exact bdrewN (by go_grown) _) (Nat.le_refl _)), (H.out.2.below (B := w.heap.size) (by first | exact Below.refl _ _ | (go_grown; done) | exact bdrewN (by go_grown) _) (Nat.le_refl _))⟩ R.out k0 k1 HC.out b0 b1 b2 b3).mono ?_; rintro e w3 ⟨rfl, hb3⟩; obtain ⟨B3, hz3, q3, s3, t3, x3, y3, z3⟩ := bkeep (w := w) [w.heap.size, w.heap.size + 1, w.heap.size + 2, w.heap.size + 3] (by first | (simp; done) | (simp; omega)) (by first | (go_grown; done) | exact bdrewN (by go_grown) _) hb3; (try simp at hz3); clear hb3))
      have zc0 : w3.cell? ⟨w.heap.size + 1 + 1 + 1, 0, none⟩ = some (.int .i64 0) := by simp [*, go_sem]
      have zc1 : w3.cell? ⟨w.heap.size + 1 + 1 + 1, 1, none⟩ = some (.bool false) := by simp [*, go_sem]
      have zc2 : w3.cell? ⟨w.heap.size + 1 + 1 + 1, 2, none⟩ = some (.int .i64 0) := by simp [*, go_sem]
      have zc3 : w3.cell? ⟨w.heap.size + 1 + 1 + 1, 3, none⟩ = some (.int .i64 0) := by simp [*, go_sem]
      have zf : ∀ o, w3.frozen? ⟨w.heap.size + 1 + 1 + 1, o, none⟩ = false := fun o => by simp [*, go_sem]
      clear q1 q2 q3 s1 s2 s3
      refine bodyPost_ret (by simp [results, Try.results46, go_sem, *] <;> rfl) rfl ?_
      exact ⟨by rw [SS.out.e, SS.out.v, SS.out.k', SS.out.d', SS.out.l', SS.out.h'], (by first | with_reducible exact B3 | (go_grown; done) | with_reducible exact bdrewN B3 _ | (go_grown <;> first | with_reducible exact bdrewN B3 _ | with_reducible exact B3))⟩
    · have he : srE ds ss src co si hy k dn lo hi = 2 := by unfold srE; rw [if_pos h0, hb]; rfl
      have s_ := sr_no (dn := dn) (fun g => by rw [hb] at g; cases g.2) he
      have H := Lib.hid h; have R := Lib.hid r; have SS := Lib.hid s_; clear h r s_ he h0
      go_enter Try.func46, Try.ntmps46
      go_wp2_with (first
        | (go_at_call 132; refine (newRay_ok _ _ _ _ _ _ _ _ _ _ _ ⟨(H.out.1.below (B := w.heap.size) (by first | exact Below.refl _ _ | (go_grown; done) | exact bdrewN (by go_grown) _) (Nat.le_refl _)), (H.out.2.below (B := w.heap.size) (by first | exact Below.refl _ _ | (go_grown; done) | exact bdrewN (by go_grown) _) (Nat.le_refl _))⟩ R.out).mono ?_; rintro e w1 ⟨rfl, hb1⟩; obtain ⟨B1, hz1, q1, s1, t1, x1, y1, z1⟩ := bkeep (w := w) [w.heap.size, w.heap.size + 1, w.heap.size + 2, w.heap.size + 3] (by first | (simp; done) | (simp; omega)) (by first | (go_grown; done) | exact bdrewN (by go_grown) _) hb1; (try simp at hz1); clear hb1)
        | (go_at_call 133; refine (isState_any _ _ _ _ _ _ _ _ _ _ _ _ _ _ _ (H.out.2.below (B := w.heap.size) (by first | exact Below.refl _ _ | (go_grown; done) | exact bdrewN (by go_grown) _) (Nat.le_refl _)) R.out hn).mono ?_; rintro e w2 ⟨rfl, hb2⟩; obtain ⟨B2, hz2, q2, s2, t2, x2, y2, z2⟩ := bkeep (w := w) [w.heap.size, w.heap.size + 1, w.heap.size + 2, w.heap.size + 3] (by first | (simp; done) | (simp; omega)) (by first | (go_grown; done) | exact bdrewN (by go_grown) _) hb2; (try simp at hz2); clear hb2))
      have zc0 : w2.cell? ⟨w.heap.size + 1 + 1 + 1, 0, none⟩ = some (.int .i64 0) := by simp [*, go_sem]
      have zc1 : w2.cell? ⟨w.heap.size + 1 + 1 + 1, 1, none⟩ = some (.bool false) := by simp [*, go_sem]
      have zc2 : w2.cell? ⟨w.heap.size + 1 + 1 + 1, 2, none⟩ = some (.int .i64 0) := by simp [*, go_sem]
      have zc3 : w2.cell? ⟨w.heap.size + 1 + 1 + 1, 3, none⟩ = some (.int .i64 0) := by simp [*, go_sem]
      have zf : ∀ o, w2.frozen? ⟨w.heap.size + 1 + 1 + 1, o, none⟩ = false := fun o => by simp [*, go_sem]
      clear q1 q2 s1 s2
      refine bodyPost_ret (by simp [results, Try.results46, go_sem, *] <;> rfl) rfl ?_
      exact ⟨by rw [SS.out.e, SS.out.v, SS.out.k', SS.out.d', SS.out.l', SS.out.h'], (by first | with_reducible exact B2 | (go_grown; done) | with_reducible exact bdrewN B2 _ | (go_grown <;> first | with_reducible exact bdrewN B2 _ | with_reducible exact B2))⟩
  · have he : srE ds ss src co si hy k dn lo hi = rayE ds ss src co si hy 0 := by unfold srE; rw [if_neg h0]
    have s_ := sr_no (dn := dn) (fun g => h0 g.1) he
    have hE : (rayE ds ss src co si hy 0 == 0) = false := by simpa using h0
    have hE2 : (rayE ds ss src co si hy 0 != 0) = true := by simpa using h0
    have H := Lib.hid h; have SS := Lib.hid s_; have H0 := Lib.hid h0; clear h s_ he h0
    go_enter Try.func46, Try.ntmps46
    go_wp2_with (go_at_call 132; refine (newRay_bad _ _ _ _ _ _ _ _ _ _ _ ⟨(H.out.1.below (B := w.heap.size) (by first | exact Below.refl _ _ | (go_grown; done) | exact bdrewN (by go_grown) _) (Nat.le_refl _)), (H.out.2.below (B := w.heap.size) (by first | exact Below.refl _ _ | (go_grown; done) | exact bdrewN (by go_grown) _) (Nat.le_refl _))⟩ H0.out).mono ?_; rintro e w1 ⟨rfl, hb1⟩; obtain ⟨B1, hz1, q1, s1, t1, x1, y1, z1⟩ := bkeep (w := w) [w.heap.size, w.heap.size + 1, w.heap.size + 2, w.heap.size + 3] (by first | (simp; done) | (simp; omega)) (by first | (go_grown; done) | exact bdrewN (by go_grown) _) hb1; (try simp at hz1); clear hb1)
    have zc0 : w1.cell? ⟨w.heap.size + 1 + 1 + 1, 0, none⟩ = some (.int .i64 0) := by simp [*, go_sem]
    have zc1 : w1.cell? ⟨w.heap.size + 1 + 1 + 1, 1, none⟩ = some (.bool false) := by simp [*, go_sem]
    have zc2 : w1.cell? ⟨w.heap.size + 1 + 1 + 1, 2, none⟩ = some (.int .i64 0) := by simp [*, go_sem]
    have zc3 : w1.cell? ⟨w.heap.size + 1 + 1 + 1, 3, none⟩ = some (.int .i64 0) := by simp [*, go_sem]
    have zf : ∀ o, w1.frozen? ⟨w.heap.size + 1 + 1 + 1, o, none⟩ = false := fun o => by simp [*, go_sem]
    clear q1 s1
    refine bodyPost_ret (by simp [results, Try.results46, go_sem, *] <;> rfl) rfl ?_
    exact ⟨by rw [SS.out.e, SS.out.v, SS.out.k', SS.out.d', SS.out.l', SS.out.h'], (by first | with_reducible exact B1 | (go_grown; done) | with_reducible exact bdrewN B1 _ | (go_grown <;> first | with_reducible exact bdrewN B1 _ | with_reducible exact B1))⟩
set_option maxHeartbeats 4000000 in
theorem specStepRay_any (A1 A2 : Option Addr) (c1 c2 : Nat) (ds ss : List Int) (src co si hy k : Int) (dn : Bool) (lo hi : Int) (w : World) (h : ProfAt w A1 c1 A2 c2 ds ss) :
    Calls Try.prog 47 #[profV A1 ds.length c1 A2 ss.length c2, .int .i64 src, dirV co si hy, rsV k dn lo hi] w fun e w' => e = .returned (.tuple #[rsV (srK ds ss src co si hy k dn lo hi) (srD ds ss src co si hy k dn lo hi) (srL ds ss src co si hy k dn lo hi) (srH ds ss src co si hy k dn lo hi), .int .i64 (srV ds ss src co si hy k dn lo hi), .int .i64 (srE ds ss src co si hy k dn lo hi)]) ∧ Below w.heap.size w w' := by
  have hn := Nat.le_trans h.1.1 h.1.2.1
  by_cases h0 : rayE ds ss src co si hy 0 = 0
  · have r := rayOk_zero h0
    have hE : (rayE ds ss src co si hy 0 == 0) = true := by rw [h0]; rfl
    have hE2 : (rayE ds ss src co si hy 0 != 0) = false := by rw [h0]; rfl
    rcases Bool.eq_false_or_eq_true (stB ds ss src co si hy k lo hi) with hb | hb
    · obtain ⟨k0, k1, hc, b0, b1, b2, b3⟩ := stB_facts (dn := dn) r hb
      have s_ := sr_ok (dn := dn) h0 hb
      have H := Lib.hid h; have R := Lib.hid r; have SS := Lib.hid s_; have HC := Lib.hid hc; clear h r s_ hc h0
      go_enter Try.func47, Try.ntmps47
      go_wp2_with (first
        | (go_at_call 135; refine (l05Code_any _ _ _ _ _ _ _ _ _ _ _ _ ⟨(H.out.1.below (B := w.heap.size) (by first | exact Below.refl _ _ | (go_grown; done) | exact bdrewN (by go_grown) _) (Nat.le_refl _)), (H.out.2.below (B := w.heap.size) (by first | exact Below.refl _ _ | (go_grown; done) | exact bdrewN (by go_grown) _) (Nat.le_refl _))⟩).mono ?_; rintro e w1 ⟨rfl, hb1⟩; obtain ⟨B1, hz1, q1, s1, t1, x1, y1, z1⟩ := bkeep (w := w) [w.heap.size, w.heap.size + 1, w.heap.size + 2, w.heap.size + 3] (by first | (simp; done) | (simp; omega)) (by first | (go_grown; done) | exact bdrewN (by go_grown) _) hb1; (try simp at hz1); clear hb1)
        | (go_at_call 52; refine (specIsRayState_any _ _ _ _ _ _ _ _ _ _ _ _ _ _ _ ⟨(H.out.1.below (B := w.heap.size) (by first | exact Below.refl _ _ | (go_grown; done) | exact bdrewN (by go_grown) _) (Nat.le_refl _)), (H.out.2.below (B := w.heap.size) (by first | exact Below.refl _ _ | (go_grown; done) | exact bdrewN (by go_grown) _) (Nat.le_refl _))⟩).mono ?_; rintro e w2 ⟨rfl, hb2⟩; obtain ⟨B2, hz2, q2, s2, t2, x2, y2, z2⟩ := bkeep (w := w) [w.heap.size, w.heap.size + 1, w.heap.size + 2, w.heap.size + 3] (by first | (simp; done) | (simp; omega)) (by first | (go_grown; done) | exact bdrewN (by go_grown) _) hb2; (try simp at hz2); clear hb2)
        | (go_at_call 136; refine (specStep_any _ _ _ _ _ _ _ _ _ _ _ _ _ _ _ ⟨(H.out.1.below (B := w.heap.size) (by first | exact Below.refl _ _ | (go_grown; done) | exact bdrewN (by go_grown) _) (Nat.le_refl _)), (H.out.2.below (B := w.heap.size) (by first | exact Below.refl _ _ | (go_grown; done) | exact bdrewN (by go_grown) _) (Nat.le_refl _))⟩ R.out k0 k1 HC.out b0 b1 b2 b3).mono ?_; rintro e w3 ⟨rfl, hb3⟩; obtain ⟨B3, hz3, q3, s3, t3, x3, y3, z3⟩ := bkeep (w := w) [w.heap.size, w.heap.size + 1, w.heap.size + 2, w.heap.size + 3] (by first | (simp; done) | (simp; omega)) (by first | (go_grown; done) | exact bdrewN (by go_grown) _) hb3; (try simp at hz3); clear hb3))
      have zc0 : w3.cell? ⟨w.heap.size + 1 + 1 + 1, 0, none⟩ = some (.int .i64 0) := by simp [*, go_sem]
      have zc1 : w3.cell? ⟨w.heap.size + 1 + 1 + 1, 1, none⟩ = some (.bool false) := by simp [*, go_sem]
      have zc2 : w3.cell? ⟨w.heap.size + 1 + 1 + 1, 2, none⟩ = some (.int .i64 0) := by simp [*, go_sem]
      have zc3 : w3.cell? ⟨w.heap.size + 1 + 1 + 1, 3, none⟩ = some (.int .i64 0) := by simp [*, go_sem]
      have zf : ∀ o, w3.frozen? ⟨w.heap.size + 1 + 1 + 1, o, none⟩ = false := fun o => by simp [*, go_sem]
      clear q1 q2 q3 s1 s2 s3
      refine bodyPost_ret (by simp [results, Try.results47, go_sem, *] <;> rfl) rfl ?_
      exact ⟨by rw [SS.out.e, SS.out.v, SS.out.k', SS.out.d', SS.out.l', SS.out.h'], (by first | with_reducible exact B3 | (go_grown; done) | with_reducible exact bdrewN B3 _ | (go_grown <;> first | with_reducible exact bdrewN B3 _ | with_reducible exact B3))⟩
    · have he : srE ds ss src co si hy k dn lo hi = 2 := by unfold srE; rw [if_pos h0, hb]; rfl
      have s_ := sr_no (dn := dn) (fun g => by rw [hb] at g; cases g.2) he
      have H := Lib.hid h; have R := Lib.hid r; have SS := Lib.hid s_; clear h r s_ he h0
      go_enter Try.func47, Try.ntmps47
      go_wp2_with (first
        | (go_at_call 135; refine (l05Code_any _ _ _ _ _ _ _ _ _ _ _ _ ⟨(H.out.1.below (B := w.heap.size) (by first | exact Below.refl _ _ | (go_grown; done) | exact bdrewN (by go_grown) _) (Nat.le_refl _)), (H.out.2.below (B := w.heap.size) (by first | exact Below.refl _ _ | (go_grown; done) | exact bdrewN (by go_grown) _) (Nat.le_refl _))⟩).mono ?_; rintro e w1 ⟨rfl, hb1⟩; obtain ⟨B1, hz1, q1, s1, t1, x1, y1, z1⟩ := bkeep (w := w) [w.heap.size, w.heap.size + 1, w.heap.size + 2, w.heap.size + 3] (by first | (simp; done) | (simp; omega)) (by first | (go_grown; done) | exact bdrewN (by go_grown) _) hb1; (try simp at hz1); clear hb1)
        | (go_at_call 52; refine (specIsRayState_any _ _ _ _ _ _ _ _ _ _ _ _ _ _ _ ⟨(H.out.1.below (B := w.heap.size) (by first | exact Below.refl _ _ | (go_grown; done) | exact bdrewN (by go_grown) _) (Nat.le_refl _)), (H.out.2.below (B := w.heap.size) (by first | exact Below.refl _ _ | (go_grown; done) | exact bdrewN (by go_grown) _) (Nat.le_refl _))⟩).mono ?_; rintro e w2 ⟨rfl, hb2⟩; obtain ⟨B2, hz2, q2, s2, t2, x2, y2, z2⟩ := bkeep (w := w) [w.heap.size, w.heap.size + 1, w.heap.size + 2, w.heap.size + 3] (by first | (simp; done) | (simp; omega)) (by first | (go_grown; done) | exact bdrewN (by go_grown) _) hb2; (try simp at hz2); clear hb2))
      have zc0 : w2.cell? ⟨w.heap.size + 1 + 1 + 1, 0, none⟩ = some (.int .i64 0) := by simp [*, go_sem]
      have zc1 : w2.cell? ⟨w.heap.size + 1 + 1 + 1, 1, none⟩ = some (.bool false) := by simp [*, go_sem]
      have zc2 : w2.cell? ⟨w.heap.size + 1 + 1 + 1, 2, none⟩ = some (.int .i64 0) := by simp [*, go_sem]
      have zc3 : w2.cell? ⟨w.heap.size + 1 + 1 + 1, 3, none⟩ = some (.int .i64 0) := by simp [*, go_sem]
      have zf : ∀ o, w2.frozen? ⟨w.heap.size + 1 + 1 + 1, o, none⟩ = false := fun o => by simp [*, go_sem]
      clear q1 q2 s1 s2
      refine bodyPost_ret (by simp [results, Try.results47, go_sem, *] <;> rfl) rfl ?_
      exact ⟨by rw [SS.out.e, SS.out.v, SS.out.k', SS.out.d', SS.out.l', SS.out.h'], (by first | with_reducible exact B2 | (go_grown; done) | with_reducible exact bdrewN B2 _ | (go_grown <;> first | with_reducible exact bdrewN B2 _ | with_reducible exact B2))⟩
  · have he : srE ds ss src co si hy k dn lo hi = rayE ds ss src co si hy 0 := by unfold srE; rw [if_neg h0]
    have s_ := sr_no (dn := dn) (fun g => h0 g.1) he
    have hE : (rayE ds ss src co si hy 0 == 0) = false := by simpa using h0
    have hE2 : (rayE ds ss src co si hy 0 != 0) = true := by simpa using h0
    have H := Lib.hid h; have SS := Lib.hid s_; have H0 := Lib.hid h0; clear h s_ he h0
    go_enter Try.func47, Try.ntmps47
    go_wp2_with (go_at_call 135; refine (l05Code_any _ _ _ _ _ _ _ _ _ _ _ _ ⟨(H.out.1.below (B := w.heap.size) (by first | exact Below.refl _ _ | (go_grown; done) | exact bdrewN (by go_grown) _) (Nat.le_refl _)), (H.out.2.below (B := w.heap.size) (by first | exact Below.refl _ _ | (go_grown; done) | exact bdrewN (by go_grown) _) (Nat.le_refl _))⟩).mono ?_; rintro e w1 ⟨rfl, hb1⟩; obtain ⟨B1, hz1, q1, s1, t1, x1, y1, z1⟩ := bkeep (w := w) [w.heap.size, w.heap.size + 1, w.heap.size + 2, w.heap.size + 3] (by first | (simp; done) | (simp; omega)) (by first | (go_grown; done) | exact bdrewN (by go_grown) _) hb1; (try simp at hz1); clear hb1)
    have zc0 : w1.cell? ⟨w.heap.size + 1 + 1 + 1, 0, none⟩ = some (.int .i64 0) := by simp [*, go_sem]
    have zc1 : w1.cell? ⟨w.heap.size + 1 + 1 + 1, 1, none⟩ = some (.bool false) := by simp [*, go_sem]
    have zc2 : w1.cell? ⟨w.heap.size + 1 + 1 + 1, 2, none⟩ = some (.int .i64 0) := by simp [*, go_sem]
    have zc3 : w1.cell? ⟨w.heap.size + 1 + 1 + 1, 3, none⟩ = some (.int .i64 0) := by simp [*, go_sem]
    have zf : ∀ o, w1.frozen? ⟨w.heap.size + 1 + 1 + 1, o, none⟩ = false := fun o => by simp [*, go_sem]
    clear q1 s1
    refine bodyPost_ret (by simp [results, Try.results47, go_sem, *] <;> rfl) rfl ?_
    exact ⟨by rw [SS.out.e, SS.out.v, SS.out.k', SS.out.d', SS.out.l', SS.out.h'], (by first | with_reducible exact B1 | (go_grown; done) | with_reducible exact bdrewN B1 _ | (go_grown <;> first | with_reducible exact bdrewN B1 _ | with_reducible exact B1))⟩
end Go.Proofs.Ytmgmhaikehjddaa
