/- The law of CellVerdict. -/
import Derived.Test.YtopggkomkfjbfaaCellV
namespace Go.Proofs.Ytopggkomkfjbfaa
set_option linter.unusedSimpArgs false
set_option linter.unusedVariables false
open Go.RowKit
set_option maxHeartbeats 2000000 in
theorem lawCellVerdict_any (A1 A2 : Option Addr) (c1 c2 : Nat) (ds ss : List Int) (src co si hy co' si' hy' n knot dist : Int) (w : World) (h : ProfAt w A1 c1 A2 c2 ds ss) :
    Calls Try.prog 5 #[profV A1 ds.length c1 A2 ss.length c2, .int .i64 src, dirV co si hy, dirV co' si' hy', .int .i64 n, .int .i64 knot, .int .i64 dist] w fun e w' => e = .returned (.bool true) ∧ Below w.heap.size w w' := by
  have hn1 := Nat.le_trans h.1.1 h.1.2.1
  have hn2 := Nat.le_trans h.2.1 h.2.2.1
  have H1 := Lib.hid h.1; have H2 := Lib.hid h.2; clear h
  by_cases hs0 : ¬ (1048576 : Int) - ds.length < 0
  · skip
    by_cases hs1 : ¬ (1048576 : Int) - ds.length - ss.length < 0
    · skip
      go_enter Try.func5, Try.ntmps5
      go_wp2_with fail
      refine (szProfile_any _ _ _ _ _ _ _ _ (by omega) (by omega) hn1 hn2).mono ?_; rintro e w1 ⟨rfl, hb1⟩
      obtain ⟨T1, z1, q1, s1, x1, y1⟩ := lkeep (w := w) [w.heap.size, w.heap.size + 1, w.heap.size + 2] (by first | (simp; done) | (simp; omega)) (by first | exact Below.refl _ _ | (go_grown; done)) hb1
      (try simp only [World.size_alloc, World.size_drew, size_set] at z1)
      have S1 := Lib.hid T1; clear T1 hb1
      have B1 := Lib.hid S1.out
      have b1 : w.heap.size ≤ w1.heap.size := B1.out.size
      go_wp2_with fail
      go_region_held3 (fun w' => w'.cell? ⟨w.heap.size, 0, none⟩ = some (.slice A1 ds.length c1) ∧ w'.cell? ⟨w.heap.size, 1, none⟩ = some (.slice A2 ss.length c2) ∧ w'.cell? ⟨w.heap.size + 1, 0, none⟩ = some (.int .i64 co) ∧ w'.cell? ⟨w.heap.size + 1, 1, none⟩ = some (.int .i64 si) ∧ w'.cell? ⟨w.heap.size + 1, 2, none⟩ = some (.int .i64 hy) ∧ w'.cell? ⟨w.heap.size + 2, 0, none⟩ = some (.int .i64 co') ∧ w'.cell? ⟨w.heap.size + 2, 1, none⟩ = some (.int .i64 si') ∧ w'.cell? ⟨w.heap.size + 2, 2, none⟩ = some (.int .i64 hy')) (first | (go_keep; done) | (simp [*, go_sem]; done))
        (first
          | (have hq_ := S3; go_at_call 15; refine (toDirection_any _ _ _ _).mono ?_; rintro e w4 ⟨rfl, hb4⟩; obtain ⟨T4, z4, q4, s4, x4, y4⟩ := lkeep (w := w3) [w.heap.size, w.heap.size + 1, w.heap.size + 2] (by first | (simp; done) | (simp; omega)) (by first | exact Below.refl _ _ | (go_grown; done)) hb4; (try simp only [World.size_alloc, World.size_drew, size_set] at z4); have S4 := Lib.hid T4; clear T4 hb4; have B4 := Lib.hid (B3.out.trans (S4.out.mono (by omega))); have b4 : w.heap.size ≤ w4.heap.size := B4.out.size; have M0_4 := Lib.hid (M0_3.out.below S4.out (by omega)))
          | (go_at_call 14; refine (toProfile_any _ _ _ _ _ _ _ ((H1.out.below B1.out (Nat.le_refl _)).below (B := w1.heap.size) (by first | exact Below.refl _ _ | (go_grown; done)) (Nat.le_refl _)) ((H2.out.below B1.out (Nat.le_refl _)).below (B := w1.heap.size) (by first | exact Below.refl _ _ | (go_grown; done)) (Nat.le_refl _)) (by omega) (by omega)).mono ?_; rintro e w2 ⟨⟨g2, g2x, rfl, R2⟩, hb2⟩; obtain ⟨T2, z2, q2, s2, x2, y2⟩ := lkeep (w := w1) [w.heap.size, w.heap.size + 1, w.heap.size + 2] (by first | (simp; done) | (simp; omega)) (by first | exact Below.refl _ _ | (go_grown; done)) hb2; (try simp only [World.size_alloc, World.size_drew, size_set] at z2); have S2 := Lib.hid T2; clear T2 hb2; have B2 := Lib.hid (B1.out.trans (S2.out.mono (by omega))); have b2 : w.heap.size ≤ w2.heap.size := B2.out.size; have M0_2 := Lib.hid (R2.mono (show w1.heap.size ≤ _ by first | (simp; done) | (simp; omega)) (Nat.le_refl _)); clear R2)
          | (go_at_call 15; refine (toDirection_any _ _ _ _).mono ?_; rintro e w3 ⟨rfl, hb3⟩; obtain ⟨T3, z3, q3, s3, x3, y3⟩ := lkeep (w := w2) [w.heap.size, w.heap.size + 1, w.heap.size + 2] (by first | (simp; done) | (simp; omega)) (by first | exact Below.refl _ _ | (go_grown; done)) hb3; (try simp only [World.size_alloc, World.size_drew, size_set] at z3); have S3 := Lib.hid T3; clear T3 hb3; have B3 := Lib.hid (B2.out.trans (S3.out.mono (by omega))); have b3 : w.heap.size ≤ w3.heap.size := B3.out.size; have M0_3 := Lib.hid (M0_2.out.below S3.out (by omega)))
          | (go_at_call 21; refine (specCellVerdict_any _ _ _ _ _ _ _ _ _ _ _ _ _ _ _ _ _ (M0_4.out.at.below (B := w4.heap.size) (by first | exact Below.refl _ _ | (go_grown; done)) (Nat.le_refl _))).mono ?_; rintro e w5 ⟨rfl, hb5⟩; obtain ⟨T5, z5, q5, s5, x5, y5⟩ := lkeep (w := w4) [w.heap.size, w.heap.size + 1, w.heap.size + 2] (by first | (simp; done) | (simp; omega)) (by first | exact Below.refl _ _ | (go_grown; done)) hb5; (try simp only [World.size_alloc, World.size_drew, size_set] at z5); have S5 := Lib.hid T5; clear T5 hb5; have B5 := Lib.hid (B4.out.trans (S5.out.mono (by omega))); have b5 : w.heap.size ≤ w5.heap.size := B5.out.size; have M0_5 := Lib.hid (M0_4.out.below S5.out (by omega)); have l5_0 := x5 (w.heap.size) (by simp); have n5_0 : w.heap.size ≠ w5.heap.size := Nat.ne_of_lt l5_0; have m5_0 : w5.heap.size ≠ w.heap.size := (Nat.ne_of_lt l5_0).symm; have l5_1 := x5 (w.heap.size + 1) (by simp); have n5_1 : w.heap.size + 1 ≠ w5.heap.size := Nat.ne_of_lt l5_1; have m5_1 : w5.heap.size ≠ w.heap.size + 1 := (Nat.ne_of_lt l5_1).symm; have l5_2 := x5 (w.heap.size + 2) (by simp); have n5_2 : w.heap.size + 2 ≠ w5.heap.size := Nat.ne_of_lt l5_2; have m5_2 : w5.heap.size ≠ w.heap.size + 2 := (Nat.ne_of_lt l5_2).symm))
      go_wp2_with fail
      refine (toProfile_any _ _ _ _ _ _ _ ((H1.out.below B5.out (Nat.le_refl _)).below (B := w5.heap.size) (by first | exact Below.refl _ _ | (go_grown; done)) (Nat.le_refl _)) ((H2.out.below B5.out (Nat.le_refl _)).below (B := w5.heap.size) (by first | exact Below.refl _ _ | (go_grown; done)) (Nat.le_refl _)) (by omega) (by omega)).mono ?_; rintro e w6 ⟨⟨g6, g6x, rfl, R6⟩, hb6⟩
      obtain ⟨T6, z6, q6, s6, x6, y6⟩ := lkeep (w := w5) [w.heap.size, w.heap.size + 1, w.heap.size + 2] (by first | (simp; done) | (simp; omega)) (by first | exact Below.refl _ _ | (go_grown; done)) hb6
      (try simp only [World.size_alloc, World.size_drew, size_set] at z6)
      have S6 := Lib.hid T6; clear T6 hb6
      have B6 := Lib.hid (B5.out.trans (S6.out.mono (by omega)))
      have b6 : w.heap.size ≤ w6.heap.size := B6.out.size
      have X0_6 := Lib.hid (R6.mono (show w5.heap.size ≤ _ by first | (simp; done) | (simp; omega)) (Nat.le_refl _)); clear R6
      go_wp2_with fail
      go_region_held3 (fun w' => w'.cell? ⟨w6.heap.size, 0, none⟩ = some (.slice (some ⟨g6, 0, none⟩) ds.length ds.length) ∧ w'.cell? ⟨w6.heap.size, 1, none⟩ = some (.slice (some ⟨g6x, 0, none⟩) ss.length ss.length) ∧ w'.cell? ⟨w.heap.size + 1, 0, none⟩ = some (.int .i64 co) ∧ w'.cell? ⟨w.heap.size + 1, 1, none⟩ = some (.int .i64 si) ∧ w'.cell? ⟨w.heap.size + 1, 2, none⟩ = some (.int .i64 hy) ∧ w'.cell? ⟨w.heap.size + 2, 0, none⟩ = some (.int .i64 co') ∧ w'.cell? ⟨w.heap.size + 2, 1, none⟩ = some (.int .i64 si') ∧ w'.cell? ⟨w.heap.size + 2, 2, none⟩ = some (.int .i64 hy')) (first | (go_keep; done) | (simp [*, go_sem]; done))
        (first
          | (have hq_ := S7; go_at_call 15; refine (toDirection_any _ _ _ _).mono ?_; rintro e w8 ⟨rfl, hb8⟩; obtain ⟨T8, z8, q8, s8, x8, y8⟩ := lkeep (w := w7) [w.heap.size, w.heap.size + 1, w.heap.size + 2, w6.heap.size] (by first | (simp; done) | (simp; omega)) (by first | exact Below.refl _ _ | (go_grown; done)) hb8; (try simp only [World.size_alloc, World.size_drew, size_set] at z8); have S8 := Lib.hid T8; clear T8 hb8; have B8 := Lib.hid (B7.out.trans (S8.out.mono (by omega))); have b8 : w.heap.size ≤ w8.heap.size := B8.out.size; have X0_8 := Lib.hid (X0_7.out.below S8.out (by omega)))
          | (go_at_call 15; refine (toDirection_any _ _ _ _).mono ?_; rintro e w7 ⟨rfl, hb7⟩; obtain ⟨T7, z7, q7, s7, x7, y7⟩ := lkeep (w := w6) [w.heap.size, w.heap.size + 1, w.heap.size + 2, w6.heap.size] (by first | (simp; done) | (simp; omega)) (by first | exact Below.refl _ _ | (go_grown; done)) hb7; (try simp only [World.size_alloc, World.size_drew, size_set] at z7); have S7 := Lib.hid T7; clear T7 hb7; have B7 := Lib.hid (B6.out.trans (S7.out.mono (by omega))); have b7 : w.heap.size ≤ w7.heap.size := B7.out.size; have X0_7 := Lib.hid (X0_6.out.below S7.out (by omega)))
          | (go_at_call 22; refine (implCellVerdict_any _ _ _ _ _ _ _ _ _ _ _ _ _ _ _ _ _ (X0_8.out.at.below (B := w8.heap.size) (by first | exact Below.refl _ _ | (go_grown; done)) (Nat.le_refl _))).mono ?_; rintro e w9 ⟨rfl, hb9⟩; obtain ⟨T9, z9, q9, s9, x9, y9⟩ := lkeep (w := w8) [w.heap.size, w.heap.size + 1, w.heap.size + 2, w6.heap.size] (by first | (simp; done) | (simp; omega)) (by first | exact Below.refl _ _ | (go_grown; done)) hb9; (try simp only [World.size_alloc, World.size_drew, size_set] at z9); have S9 := Lib.hid T9; clear T9 hb9; have B9 := Lib.hid (B8.out.trans (S9.out.mono (by omega))); have b9 : w.heap.size ≤ w9.heap.size := B9.out.size; have X0_9 := Lib.hid (X0_8.out.below S9.out (by omega)); have l9_0 := x9 (w6.heap.size) (by simp); have n9_0 : w6.heap.size ≠ w9.heap.size := Nat.ne_of_lt l9_0; have m9_0 : w9.heap.size ≠ w6.heap.size := (Nat.ne_of_lt l9_0).symm; have l9_1 := x9 (w.heap.size + 1) (by simp); have n9_1 : w.heap.size + 1 ≠ w9.heap.size := Nat.ne_of_lt l9_1; have m9_1 : w9.heap.size ≠ w.heap.size + 1 := (Nat.ne_of_lt l9_1).symm; have l9_2 := x9 (w.heap.size + 2) (by simp); have n9_2 : w.heap.size + 2 ≠ w9.heap.size := Nat.ne_of_lt l9_2; have m9_2 : w9.heap.size ≠ w.heap.size + 2 := (Nat.ne_of_lt l9_2).symm))
      go_wp2_with fail
      go_region_held3 (fun w' => w'.cell? ⟨w.heap.size, 0, none⟩ = some (.slice A1 ds.length c1) ∧ w'.cell? ⟨w.heap.size, 1, none⟩ = some (.slice A2 ss.length c2) ∧ w'.cell? ⟨w6.heap.size, 0, none⟩ = some (.slice (some ⟨g6, 0, none⟩) ds.length ds.length) ∧ w'.cell? ⟨w6.heap.size, 1, none⟩ = some (.slice (some ⟨g6x, 0, none⟩) ss.length ss.length)) (first | (go_keep; done) | (simp [*, go_sem]; done))
        (first
          | (go_at_call 14; refine (toProfile_any _ _ _ _ _ _ _ ((H1.out.below B9.out (Nat.le_refl _)).below (B := w9.heap.size) (by first | exact Below.refl _ _ | (go_grown; done)) (Nat.le_refl _)) ((H2.out.below B9.out (Nat.le_refl _)).below (B := w9.heap.size) (by first | exact Below.refl _ _ | (go_grown; done)) (Nat.le_refl _)) (by omega) (by omega)).mono ?_; rintro e w10 ⟨⟨g10, g10x, rfl, R10⟩, hb10⟩; obtain ⟨T10, z10, q10, s10, x10, y10⟩ := lkeep (w := w9) [w.heap.size, w.heap.size + 1, w.heap.size + 2, w6.heap.size] (by first | (simp; done) | (simp; omega)) (by first | exact Below.refl _ _ | (go_grown; done)) hb10; (try simp only [World.size_alloc, World.size_drew, size_set] at z10); have S10 := Lib.hid T10; clear T10 hb10; have B10 := Lib.hid (B9.out.trans (S10.out.mono (by omega))); have b10 : w.heap.size ≤ w10.heap.size := B10.out.size; have X0_10 := Lib.hid (X0_9.out.below S10.out (by omega)); have Y_10 := Lib.hid (R10.mono (show w9.heap.size ≤ _ by first | (simp; done) | (simp; omega)) (Nat.le_refl _)); clear R10)
          | (go_at_call 18; refine (eqProfile_same _ _ _ _ _ _ _ _ _ _ _ (X0_10.out.at.below (B := w10.heap.size) (by first | exact Below.refl _ _ | (go_grown; done)) (Nat.le_refl _)) (Y_10.out.at.below (B := w10.heap.size) (by first | exact Below.refl _ _ | (go_grown; done)) (Nat.le_refl _))).mono ?_; rintro e w11 ⟨rfl, hb11⟩; obtain ⟨T11, z11, q11, s11, x11, y11⟩ := lkeep (w := w10) [w.heap.size, w.heap.size + 1, w.heap.size + 2, w6.heap.size] (by first | (simp; done) | (simp; omega)) (by first | exact Below.refl _ _ | (go_grown; done)) hb11; (try simp only [World.size_alloc, World.size_drew, size_set] at z11); have S11 := Lib.hid T11; clear T11 hb11; have B11 := Lib.hid (B10.out.trans (S11.out.mono (by omega))); have b11 : w.heap.size ≤ w11.heap.size := B11.out.size; have X0_11 := Lib.hid (X0_10.out.below S11.out (by omega))))
      go_wp2_with fail
      go_ret
      exact ⟨rfl, B11.out⟩
    · skip
      go_enter Try.func5, Try.ntmps5
      go_wp2_with fail
      (refine (szProfile_any _ _ _ _ _ _ _ _ (by omega) (by omega) hn1 hn2).mono ?_; rintro e w1 ⟨rfl, hb1⟩; obtain ⟨B1, hz1, q1, s1, t1, x1, y1, z1⟩ := bkeep (w := w) [w.heap.size, w.heap.size + 1, w.heap.size + 2] (by first | (simp; done) | (simp; omega)) (by first | (go_grown; done) | exact bdrewN (by go_grown) _) hb1; (try simp at hz1); clear hb1)
      go_wp2
      go_ret
      exact ⟨rfl, B1⟩
  · skip
    go_enter Try.func5, Try.ntmps5
    go_wp2_with fail
    (refine (szProfile_any _ _ _ _ _ _ _ _ (by omega) (by omega) hn1 hn2).mono ?_; rintro e w1 ⟨rfl, hb1⟩; obtain ⟨B1, hz1, q1, s1, t1, x1, y1, z1⟩ := bkeep (w := w) [w.heap.size, w.heap.size + 1, w.heap.size + 2] (by first | (simp; done) | (simp; omega)) (by first | (go_grown; done) | exact bdrewN (by go_grown) _) hb1; (try simp at hz1); clear hb1)
    go_wp2
    go_ret
    exact ⟨rfl, B1⟩
end Go.Proofs.Ytopggkomkfjbfaa
