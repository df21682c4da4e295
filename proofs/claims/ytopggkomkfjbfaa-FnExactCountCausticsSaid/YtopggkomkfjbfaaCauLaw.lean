/- The law of CountCaustics. -/
import Derived.Test.YtopggkomkfjbfaaCauI
namespace Go.Proofs.Ytopggkomkfjbfaa
set_option linter.unusedSimpArgs false
set_option linter.unusedVariables false
open Go.RowKit
set_option maxHeartbeats 4000000 in
theorem implCaus_any (A1 A2 : Option Addr) (c1 c2 : Nat) (ds ss : List Int) (src n lo hi : Int) (dn : Bool) (st : Int) (w : World) (h : ProfAt w A1 c1 A2 c2 ds ss) :
    Calls Try.prog 24 #[profV A1 ds.length c1 A2 ss.length c2, .int .i64 src, .int .i64 n, .int .i64 lo, .int .i64 hi, .bool dn, .int .i64 st] w fun e w' => e = .returned (.tuple #[.int .i64 (ccV ds ss src n lo hi dn st), .int .i64 (faE ds ss src n lo hi st)]) ∧ Below w.heap.size w w' := by
  by_cases hc : faE ds ss src n lo hi st = 0
  · obtain ⟨hp, hf, u0, u1, m, rfl, hm⟩ := fa_zero hc
    obtain ⟨K, hK⟩ : ∃ K : Nat, (hi - lo).toNat = K := ⟨_, rfl⟩
    have kl := (fan_ok hf).l1
    have eV := cc_ok dn hc
    rw [hK] at eV
    rw [eV, hc]
    exact implCaus_ok A1 A2 c1 c2 ds ss src n lo hi dn m K w h hp hf u0 u1 hm (by omega) (by omega)
  · have e := cc_no dn hc
    have hE2 : (faE ds ss src n lo hi st != 0) = true := by simpa using hc
    have EE := Lib.hid e; have H := Lib.hid h; clear e h hc
    go_enter Try.func24, Try.ntmps24
    go_wp2_with (go_at_call 65; refine (fanCode_any _ _ _ _ _ _ _ _ _ _ _ _ (H.out.below (B := w.heap.size) (by first | exact Below.refl _ _ | (go_grown; done) | exact bdrewN (by go_grown) _) (Nat.le_refl _))).mono ?_; rintro e w1 ⟨rfl, hb1⟩; obtain ⟨B1, hz1, q1, s1, t1, x1, y1, z1⟩ := bkeep (w := w) [w.heap.size] (by first | (simp; done) | (simp; omega)) (by first | (go_grown; done) | exact bdrewN (by go_grown) _) hb1; (try simp at hz1); clear hb1)
    go_ret2
    exact ⟨by rw [EE.out] <;> rfl, (by first | with_reducible exact B1 | (go_grown; done) | with_reducible exact bdrewN B1 _ | (go_grown <;> first | with_reducible exact bdrewN B1 _ | with_reducible exact B1))⟩
set_option maxHeartbeats 2000000 in
theorem lawCountCaustics_any (A1 A2 : Option Addr) (c1 c2 : Nat) (ds ss : List Int) (src n lo hi : Int) (dn : Bool) (st : Int) (w : World) (h : ProfAt w A1 c1 A2 c2 ds ss) :
    Calls Try.prog 6 #[profV A1 ds.length c1 A2 ss.length c2, .int .i64 src, .int .i64 n, .int .i64 lo, .int .i64 hi, .bool dn, .int .i64 st] w fun e w' => e = .returned (.bool true) ∧ Below w.heap.size w w' := by
  have hn1 := Nat.le_trans h.1.1 h.1.2.1
  have hn2 := Nat.le_trans h.2.1 h.2.2.1
  have H1 := Lib.hid h.1; have H2 := Lib.hid h.2; clear h
  by_cases hs0 : ¬ (1048576 : Int) - ds.length < 0
  · skip
    by_cases hs1 : ¬ (1048576 : Int) - ds.length - ss.length < 0
    · skip
      go_enter Try.func6, Try.ntmps6
      go_wp2_with fail
      refine (szProfile_any _ _ _ _ _ _ _ _ (by omega) (by omega) hn1 hn2).mono ?_; rintro e w1 ⟨rfl, hb1⟩
      obtain ⟨T1, z1, q1, s1, x1, y1⟩ := lkeep (w := w) [w.heap.size] (by first | (simp; done) | (simp; omega)) (by first | exact Below.refl _ _ | (go_grown; done)) hb1
      (try simp only [World.size_alloc, World.size_drew, size_set] at z1)
      have S1 := Lib.hid T1; clear T1 hb1
      have B1 := Lib.hid S1.out
      have b1 : w.heap.size ≤ w1.heap.size := B1.out.size
      go_wp2_with fail
      refine (toProfile_any _ _ _ _ _ _ _ ((H1.out.below B1.out (Nat.le_refl _)).below (B := w1.heap.size) (by first | exact Below.refl _ _ | (go_grown; done)) (Nat.le_refl _)) ((H2.out.below B1.out (Nat.le_refl _)).below (B := w1.heap.size) (by first | exact Below.refl _ _ | (go_grown; done)) (Nat.le_refl _)) (by omega) (by omega)).mono ?_; rintro e w2 ⟨⟨g2, g2x, rfl, R2⟩, hb2⟩
      obtain ⟨T2, z2, q2, s2, x2, y2⟩ := lkeep (w := w1) [w.heap.size] (by first | (simp; done) | (simp; omega)) (by first | exact Below.refl _ _ | (go_grown; done)) hb2
      (try simp only [World.size_alloc, World.size_drew, size_set] at z2)
      have S2 := Lib.hid T2; clear T2 hb2
      have B2 := Lib.hid (B1.out.trans (S2.out.mono (by omega)))
      have b2 : w.heap.size ≤ w2.heap.size := B2.out.size
      have M0_2 := Lib.hid (R2.mono (show w1.heap.size ≤ _ by first | (simp; done) | (simp; omega)) (Nat.le_refl _)); clear R2
      go_wp2_with fail
      refine (specCaus_any _ _ _ _ _ _ _ _ _ _ _ _ _ (M0_2.out.at.below (B := w2.heap.size) (by first | exact Below.refl _ _ | (go_grown; done)) (Nat.le_refl _))).mono ?_; rintro e w3 ⟨rfl, hb3⟩
      obtain ⟨T3, z3, q3, s3, x3, y3⟩ := lkeep (w := w2) [w.heap.size] (by first | (simp; done) | (simp; omega)) (by first | exact Below.refl _ _ | (go_grown; done)) hb3
      (try simp only [World.size_alloc, World.size_drew, size_set] at z3)
      have S3 := Lib.hid T3; clear T3 hb3
      have B3 := Lib.hid (B2.out.trans (S3.out.mono (by omega)))
      have b3 : w.heap.size ≤ w3.heap.size := B3.out.size
      have M0_3 := Lib.hid (M0_2.out.below S3.out (by omega))
      go_wp2_with fail
      refine (toProfile_any _ _ _ _ _ _ _ ((H1.out.below B3.out (Nat.le_refl _)).below (B := w3.heap.size) (by first | exact Below.refl _ _ | (go_grown; done)) (Nat.le_refl _)) ((H2.out.below B3.out (Nat.le_refl _)).below (B := w3.heap.size) (by first | exact Below.refl _ _ | (go_grown; done)) (Nat.le_refl _)) (by omega) (by omega)).mono ?_; rintro e w4 ⟨⟨g4, g4x, rfl, R4⟩, hb4⟩
      obtain ⟨T4, z4, q4, s4, x4, y4⟩ := lkeep (w := w3) [w.heap.size] (by first | (simp; done) | (simp; omega)) (by first | exact Below.refl _ _ | (go_grown; done)) hb4
      (try simp only [World.size_alloc, World.size_drew, size_set] at z4)
      have S4 := Lib.hid T4; clear T4 hb4
      have B4 := Lib.hid (B3.out.trans (S4.out.mono (by omega)))
      have b4 : w.heap.size ≤ w4.heap.size := B4.out.size
      have X0_4 := Lib.hid (R4.mono (show w3.heap.size ≤ _ by first | (simp; done) | (simp; omega)) (Nat.le_refl _)); clear R4
      go_wp2_with fail
      refine (implCaus_any _ _ _ _ _ _ _ _ _ _ _ _ _ (X0_4.out.at.below (B := w4.heap.size) (by first | exact Below.refl _ _ | (go_grown; done)) (Nat.le_refl _))).mono ?_; rintro e w5 ⟨rfl, hb5⟩
      obtain ⟨T5, z5, q5, s5, x5, y5⟩ := lkeep (w := w4) [w.heap.size, w4.heap.size] (by first | (simp; done) | (simp; omega)) (by first | exact Below.refl _ _ | (go_grown; done)) hb5
      (try simp only [World.size_alloc, World.size_drew, size_set] at z5)
      have S5 := Lib.hid T5; clear T5 hb5
      have B5 := Lib.hid (B4.out.trans (S5.out.mono (by omega)))
      have b5 : w.heap.size ≤ w5.heap.size := B5.out.size
      have X0_5 := Lib.hid (X0_4.out.below S5.out (by omega))
      go_wp2_with fail
      go_region_held3 (fun w' => w'.cell? ⟨w.heap.size, 0, none⟩ = some (.slice A1 ds.length c1) ∧ w'.cell? ⟨w.heap.size, 1, none⟩ = some (.slice A2 ss.length c2) ∧ w'.cell? ⟨w4.heap.size, 0, none⟩ = some (.slice (some ⟨g4, 0, none⟩) ds.length ds.length) ∧ w'.cell? ⟨w4.heap.size, 1, none⟩ = some (.slice (some ⟨g4x, 0, none⟩) ss.length ss.length)) (first | (go_keep; done) | (simp [*, go_sem]; done))
        (first
          | (go_at_call 14; refine (toProfile_any _ _ _ _ _ _ _ ((H1.out.below B5.out (Nat.le_refl _)).below (B := w5.heap.size) (by first | exact Below.refl _ _ | (go_grown; done)) (Nat.le_refl _)) ((H2.out.below B5.out (Nat.le_refl _)).below (B := w5.heap.size) (by first | exact Below.refl _ _ | (go_grown; done)) (Nat.le_refl _)) (by omega) (by omega)).mono ?_; rintro e w6 ⟨⟨g6, g6x, rfl, R6⟩, hb6⟩; obtain ⟨T6, z6, q6, s6, x6, y6⟩ := lkeep (w := w5) [w.heap.size, w4.heap.size] (by first | (simp; done) | (simp; omega)) (by first | exact Below.refl _ _ | (go_grown; done)) hb6; (try simp only [World.size_alloc, World.size_drew, size_set] at z6); have S6 := Lib.hid T6; clear T6 hb6; have B6 := Lib.hid (B5.out.trans (S6.out.mono (by omega))); have b6 : w.heap.size ≤ w6.heap.size := B6.out.size; have X0_6 := Lib.hid (X0_5.out.below S6.out (by omega)); have Y_6 := Lib.hid (R6.mono (show w5.heap.size ≤ _ by first | (simp; done) | (simp; omega)) (Nat.le_refl _)); clear R6)
          | (go_at_call 18; refine (eqProfile_same _ _ _ _ _ _ _ _ _ _ _ (X0_6.out.at.below (B := w6.heap.size) (by first | exact Below.refl _ _ | (go_grown; done)) (Nat.le_refl _)) (Y_6.out.at.below (B := w6.heap.size) (by first | exact Below.refl _ _ | (go_grown; done)) (Nat.le_refl _))).mono ?_; rintro e w7 ⟨rfl, hb7⟩; obtain ⟨T7, z7, q7, s7, x7, y7⟩ := lkeep (w := w6) [w.heap.size, w4.heap.size] (by first | (simp; done) | (simp; omega)) (by first | exact Below.refl _ _ | (go_grown; done)) hb7; (try simp only [World.size_alloc, World.size_drew, size_set] at z7); have S7 := Lib.hid T7; clear T7 hb7; have B7 := Lib.hid (B6.out.trans (S7.out.mono (by omega))); have b7 : w.heap.size ≤ w7.heap.size := B7.out.size; have X0_7 := Lib.hid (X0_6.out.below S7.out (by omega))))
      go_wp2_with fail
      go_ret
      exact ⟨rfl, B7.out⟩
    · skip
      go_enter Try.func6, Try.ntmps6
      go_wp2_with fail
      (refine (szProfile_any _ _ _ _ _ _ _ _ (by omega) (by omega) hn1 hn2).mono ?_; rintro e w1 ⟨rfl, hb1⟩; obtain ⟨B1, hz1, q1, s1, t1, x1, y1, z1⟩ := bkeep (w := w) [w.heap.size] (by first | (simp; done) | (simp; omega)) (by first | (go_grown; done) | exact bdrewN (by go_grown) _) hb1; (try simp at hz1); clear hb1)
      go_wp2
      go_ret
      exact ⟨rfl, B1⟩
  · skip
    go_enter Try.func6, Try.ntmps6
    go_wp2_with fail
    (refine (szProfile_any _ _ _ _ _ _ _ _ (by omega) (by omega) hn1 hn2).mono ?_; rintro e w1 ⟨rfl, hb1⟩; obtain ⟨B1, hz1, q1, s1, t1, x1, y1, z1⟩ := bkeep (w := w) [w.heap.size] (by first | (simp; done) | (simp; omega)) (by first | (go_grown; done) | exact bdrewN (by go_grown) _) hb1; (try simp at hz1); clear hb1)
    go_wp2
    go_ret
    exact ⟨rfl, B1⟩
end Go.Proofs.Ytopggkomkfjbfaa
