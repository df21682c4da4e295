/- The law of OpenCells. -/
import Derived.Test.YtopggkomkfjbfaaOpC
import Derived.Test.YtopggkomkfjbfaaMark
namespace Go.Proofs.Ytopggkomkfjbfaa
set_option linter.unusedSimpArgs false
set_option linter.unusedVariables false
open Go.RowKit
set_option maxHeartbeats 4000000 in
theorem lawOpenCells_any (A1 A2 : Option Addr) (c1 c2 : Nat) (ds ss : List Int) (src n lo hi : Int) (dn : Bool) (st knot dist : Int) (w : World) (h : ProfAt w A1 c1 A2 c2 ds ss) :
    Calls Try.prog 9 #[profV A1 ds.length c1 A2 ss.length c2, .int .i64 src, .int .i64 n, .int .i64 lo, .int .i64 hi, .bool dn, .int .i64 st, .int .i64 knot, .int .i64 dist] w fun e w' => e = .returned (.bool true) ∧ Below w.heap.size w w' := by
  have hn1 := Nat.le_trans h.1.1 h.1.2.1
  have hn2 := Nat.le_trans h.2.1 h.2.2.1
  have H1 := Lib.hid h.1; have H2 := Lib.hid h.2; clear h
  by_cases hs0 : ¬ (1048576 : Int) - ds.length < 0
  · skip
    by_cases hs1 : ¬ (1048576 : Int) - ds.length - ss.length < 0
    · skip
      have hL := ocL_len ds ss src n lo hi dn st knot dist
      have hL0 : (0 : Int) ≤ (ocL ds ss src n lo hi dn st knot dist).length := Int.natCast_nonneg _
      go_enter Try.func9, Try.ntmps9
      go_wp2_with fail
      refine (szProfile_any _ _ _ _ _ _ _ _ (by omega) (by omega) hn1 hn2).mono ?_; rintro e w1 ⟨rfl, hb1⟩
      obtain ⟨T1, z1, q1, s1, x1, y1⟩ := lkeep (w := w) [w.heap.size] (by first | (simp; done) | (simp; omega)) (by first | exact Below.refl _ _ | (go_grown; done)) hb1
      (try simp only [World.size_alloc, World.size_drew, size_set] at z1)
      have S1 := Lib.hid T1; clear T1 hb1
      have B1 := Lib.hid S1.out
      have b1 : w.heap.size ≤ w1.heap.size := B1.out.size
      go_wp2_with fail
      refine (toProfile_any _ _ _ _ _ _ _ ((H1.out.below B1.out (Nat.le_refl _)).below (B := w1.heap.size) (by first | exact Below.refl _ _ | (go_grown; done)) (Nat.le_refl _)) ((H2.out.below B1.out (Nat.le_refl _)).below (B := w1.heap.size) (by first | exact Below.refl _ _ | (go_grown; done)) (Nat.le_refl _)) (by omega) (by omega)).mono ?_; rintro e w2 ⟨⟨g2, g2x, rfl, R2⟩, hb2⟩
      obtain ⟨T2, z2, q2, s2, x2, y2⟩ := lkeep (w := w1) [w.heap.size] (by first | (simp; done) | (simp; omega)) (by first | exact Below.refl _ _ | (go_grown; done)) hb2
      (try simp only [World.size_alloc, World.size_drew, size_set] at z2)
      have S2 := Lib.hid T2; clear T2 hb2
      have B2 := Lib.hid (B1.out.trans (S2.out.mono (by omega)))
      have b2 : w.heap.size ≤ w2.heap.size := B2.out.size
      have M_2 := Lib.hid (R2.mono (show w1.heap.size ≤ _ by first | (simp; done) | (simp; omega)) (Nat.le_refl _))
      clear R2
      go_wp2_with fail
      refine (specOpen9_any _ _ _ _ _ _ _ _ _ _ _ _ _ _ _ (M_2.out.at.below (B := w2.heap.size) (by first | exact Below.refl _ _ | (go_grown; done)) (Nat.le_refl _))).mono ?_; rintro e w3 ⟨⟨A3, c3, rfl, R3⟩, hb3⟩
      obtain ⟨T3, z3, q3, s3, x3, y3⟩ := lkeep (w := w2) [w.heap.size] (by first | (simp; done) | (simp; omega)) (by first | exact Below.refl _ _ | (go_grown; done)) hb3
      (try simp only [World.size_alloc, World.size_drew, size_set] at z3)
      have S3 := Lib.hid T3; clear T3 hb3
      have B3 := Lib.hid (B2.out.trans (S3.out.mono (by omega)))
      have b3 : w.heap.size ≤ w3.heap.size := B3.out.size
      have M_3 := Lib.hid (M_2.out.below S3.out (by omega))
      have K_3 := Lib.hid (R3.mono (show w2.heap.size ≤ _ by first | (simp; done) | (simp; omega)) (Nat.le_refl _))
      clear R3
      go_wp2_with fail
      refine (toProfile_any _ _ _ _ _ _ _ ((H1.out.below B3.out (Nat.le_refl _)).below (B := w3.heap.size) (by first | exact Below.refl _ _ | (go_grown; done)) (Nat.le_refl _)) ((H2.out.below B3.out (Nat.le_refl _)).below (B := w3.heap.size) (by first | exact Below.refl _ _ | (go_grown; done)) (Nat.le_refl _)) (by omega) (by omega)).mono ?_; rintro e w4 ⟨⟨g4, g4x, rfl, R4⟩, hb4⟩
      obtain ⟨T4, z4, q4, s4, x4, y4⟩ := lkeep (w := w3) [w.heap.size] (by first | (simp; done) | (simp; omega)) (by first | exact Below.refl _ _ | (go_grown; done)) hb4
      (try simp only [World.size_alloc, World.size_drew, size_set] at z4)
      have S4 := Lib.hid T4; clear T4 hb4
      have B4 := Lib.hid (B3.out.trans (S4.out.mono (by omega)))
      have b4 : w.heap.size ≤ w4.heap.size := B4.out.size
      have K_4 := Lib.hid (K_3.out.below S4.out (by omega))
      have X_4 := Lib.hid (R4.mono (show w3.heap.size ≤ _ by first | (simp; done) | (simp; omega)) (Nat.le_refl _))
      clear R4
      go_wp2_with fail
      refine (implOpen9_any _ _ _ _ _ _ _ _ _ _ _ _ _ _ _ (X_4.out.at.below (B := w4.heap.size) (by first | exact Below.refl _ _ | (go_grown; done)) (Nat.le_refl _))).mono ?_; rintro e w5 ⟨⟨A5, c5, rfl, R5⟩, hb5⟩
      obtain ⟨T5, z5, q5, s5, x5, y5⟩ := lkeep (w := w4) [w.heap.size, w4.heap.size] (by first | (simp; done) | (simp; omega)) (by first | exact Below.refl _ _ | (go_grown; done)) hb5
      (try simp only [World.size_alloc, World.size_drew, size_set] at z5)
      have S5 := Lib.hid T5; clear T5 hb5
      have B5 := Lib.hid (B4.out.trans (S5.out.mono (by omega)))
      have b5 : w.heap.size ≤ w5.heap.size := B5.out.size
      have K_5 := Lib.hid (K_4.out.below S5.out (by omega))
      have X_5 := Lib.hid (X_4.out.below S5.out (by omega))
      have J_5 := Lib.hid (R5.mono (show w4.heap.size + 1 ≤ _ by first | (simp; done) | (simp; omega)) (Nat.le_refl _))
      clear R5
      go_wp2_with fail
      refine (eqInt64S_same _ _ _ _ _ _ (J_5.out.at.below (B := w5.heap.size) (by first | exact Below.refl _ _ | (go_grown; done)) (Nat.le_refl _)) (K_5.out.at.below (B := w5.heap.size) (by first | exact Below.refl _ _ | (go_grown; done)) (Nat.le_refl _))).mono ?_; rintro e w6 ⟨rfl, hb6⟩
      obtain ⟨T6, z6, q6, s6, x6, y6⟩ := lkeep (w := w5) [w.heap.size, w4.heap.size] (by first | (simp; done) | (simp; omega)) (by first | exact Below.refl _ _ | (go_grown; done)) hb6
      (try simp only [World.size_alloc, World.size_drew, size_set] at z6)
      have S6 := Lib.hid T6; clear T6 hb6
      have B6 := Lib.hid (B5.out.trans (S6.out.mono (by omega)))
      have b6 : w.heap.size ≤ w6.heap.size := B6.out.size
      have K_6 := Lib.hid (K_5.out.below S6.out (by omega))
      have X_6 := Lib.hid (X_5.out.below S6.out (by omega))
      have J_6 := Lib.hid (J_5.out.below S6.out (by omega))
      go_wp2_with fail
      go_region_held3 (fun w' => w'.cell? ⟨w.heap.size, 0, none⟩ = some (.slice A1 ds.length c1) ∧ w'.cell? ⟨w.heap.size, 1, none⟩ = some (.slice A2 ss.length c2) ∧ w'.cell? ⟨w4.heap.size, 0, none⟩ = some (.slice (some ⟨g4, 0, none⟩) ds.length ds.length) ∧ w'.cell? ⟨w4.heap.size, 1, none⟩ = some (.slice (some ⟨g4x, 0, none⟩) ss.length ss.length)) (first | (go_keep; done) | (simp [*, go_sem]; done))
        (first
          | (go_at_call 14; refine (toProfile_any _ _ _ _ _ _ _ ((H1.out.below B6.out (Nat.le_refl _)).below (B := w6.heap.size) (by first | exact Below.refl _ _ | (go_grown; done)) (Nat.le_refl _)) ((H2.out.below B6.out (Nat.le_refl _)).below (B := w6.heap.size) (by first | exact Below.refl _ _ | (go_grown; done)) (Nat.le_refl _)) (by omega) (by omega)).mono ?_; rintro e w7 ⟨⟨g7, g7x, rfl, R7⟩, hb7⟩; obtain ⟨T7, z7, q7, s7, x7, y7⟩ := lkeep (w := w6) [w.heap.size, w4.heap.size] (by first | (simp; done) | (simp; omega)) (by first | exact Below.refl _ _ | (go_grown; done)) hb7; (try simp only [World.size_alloc, World.size_drew, size_set] at z7); have S7 := Lib.hid T7; clear T7 hb7; have B7 := Lib.hid (B6.out.trans (S7.out.mono (by omega))); have b7 : w.heap.size ≤ w7.heap.size := B7.out.size; have K_7 := Lib.hid (K_6.out.below S7.out (by omega)); have X_7 := Lib.hid (X_6.out.below S7.out (by omega)); have J_7 := Lib.hid (J_6.out.below S7.out (by omega)); have Y_7 := Lib.hid (R7.mono (show w6.heap.size ≤ _ by first | (simp; done) | (simp; omega)) (Nat.le_refl _)); clear R7)
          | (go_at_call 18; refine (eqProfile_same _ _ _ _ _ _ _ _ _ _ _ (X_7.out.at.below (B := w7.heap.size) (by first | exact Below.refl _ _ | (go_grown; done)) (Nat.le_refl _)) (Y_7.out.at.below (B := w7.heap.size) (by first | exact Below.refl _ _ | (go_grown; done)) (Nat.le_refl _))).mono ?_; rintro e w8 ⟨rfl, hb8⟩; obtain ⟨T8, z8, q8, s8, x8, y8⟩ := lkeep (w := w7) [w.heap.size, w4.heap.size] (by first | (simp; done) | (simp; omega)) (by first | exact Below.refl _ _ | (go_grown; done)) hb8; (try simp only [World.size_alloc, World.size_drew, size_set] at z8); have S8 := Lib.hid T8; clear T8 hb8; have B8 := Lib.hid (B7.out.trans (S8.out.mono (by omega))); have b8 : w.heap.size ≤ w8.heap.size := B8.out.size; have K_8 := Lib.hid (K_7.out.below S8.out (by omega)); have X_8 := Lib.hid (X_7.out.below S8.out (by omega)); have J_8 := Lib.hid (J_7.out.below S8.out (by omega))))
      go_wp2_with fail
      refine (markProfile_any _ _ _ _ _ _ _ _ _ _ (X_8.out.below (B := w8.heap.size) (by first | exact Below.refl _ _ | (go_grown; done)) (by omega)) (by omega) (by first | omega | (simp; omega)) (by omega) (by omega) (by omega) (by omega)).mono ?_; rintro e w9 ⟨rfl, -, hb9⟩
      obtain ⟨z9, q9, s9, x9, y9⟩ := ckeepB [w.heap.size, w4.heap.size] (by first | (simp; done) | (simp; omega)) hb9
      (try simp only [World.size_alloc, World.size_drew, size_set] at z9)
      have C9 := Lib.hid hb9; clear hb9
      have S9 := Lib.hid (C9.out.below (B := w.heap.size) (by omega) (by first | omega | (simp; omega)))
      have B9 := Lib.hid (Below.trans (B := w.heap.size) (show Below w.heap.size w w8 from B8.out) S9.out)
      have b9 : w.heap.size ≤ w9.heap.size := B9.out.size
      have K_9 := Lib.hid (K_8.out.chgB C9.out (by omega))
      have J_9 := Lib.hid (J_8.out.chgB C9.out (by omega))
      go_wp2_with fail
      refine (eqInt64S_same _ _ _ _ _ _ (J_9.out.at.below (B := w9.heap.size) (by first | exact Below.refl _ _ | (go_grown; done)) (Nat.le_refl _)) (K_9.out.at.below (B := w9.heap.size) (by first | exact Below.refl _ _ | (go_grown; done)) (Nat.le_refl _))).mono ?_; rintro e w10 ⟨rfl, hb10⟩
      obtain ⟨T10, z10, q10, s10, x10, y10⟩ := lkeep (w := w9) [w.heap.size, w4.heap.size] (by first | (simp; done) | (simp; omega)) (by first | exact Below.refl _ _ | (go_grown; done)) hb10
      (try simp only [World.size_alloc, World.size_drew, size_set] at z10)
      have S10 := Lib.hid T10; clear T10 hb10
      have B10 := Lib.hid (B9.out.trans (S10.out.mono (by omega)))
      have b10 : w.heap.size ≤ w10.heap.size := B10.out.size
      have K_10 := Lib.hid (K_9.out.below S10.out (by omega))
      have J_10 := Lib.hid (J_9.out.below S10.out (by omega))
      go_wp2_with fail
      refine (markInt64S_any _ _ _ _ _ _ _ (J_10.out.below (B := w10.heap.size) (by first | exact Below.refl _ _ | (go_grown; done)) (by omega)) (by omega) (by omega) (by omega)).mono ?_; rintro e w11 ⟨rfl, R11, hc11⟩; have hb11 := hc11.toB; clear hc11
      obtain ⟨z11, q11, s11, x11, y11⟩ := ckeepB [w.heap.size, w4.heap.size] (by first | (simp; done) | (simp; omega)) hb11
      (try simp only [World.size_alloc, World.size_drew, size_set] at z11)
      have C11 := Lib.hid hb11; clear hb11
      have S11 := Lib.hid (C11.out.below (B := w.heap.size) (by omega) (by first | omega | (simp; omega)))
      have B11 := Lib.hid (Below.trans (B := w.heap.size) (show Below w.heap.size w w10 from B10.out) S11.out)
      have b11 : w.heap.size ≤ w11.heap.size := B11.out.size
      have K_11 := Lib.hid (K_10.out.chgB C11.out (by omega))
      have J_11 := Lib.hid R11; clear R11
      go_wp2_with fail
      refine (heldInt64S_any _ _ _ _ _ (J_11.out.at.below (B := w11.heap.size) (by first | exact Below.refl _ _ | (go_grown; done)) (Nat.le_refl _)) (by omega) (by omega) (by omega)).mono ?_; rintro e w' ⟨rfl, rfl⟩
      go_wp2_with fail
      refine (toProfile_any _ _ _ _ _ _ _ ((H1.out.below B11.out (Nat.le_refl _)).below (B := w11.heap.size) (by first | exact Below.refl _ _ | (go_grown; done)) (Nat.le_refl _)) ((H2.out.below B11.out (Nat.le_refl _)).below (B := w11.heap.size) (by first | exact Below.refl _ _ | (go_grown; done)) (Nat.le_refl _)) (by omega) (by omega)).mono ?_; rintro e w12 ⟨⟨g12, g12x, rfl, R12⟩, hb12⟩
      obtain ⟨T12, z12, q12, s12, x12, y12⟩ := lkeep (w := w11) [w.heap.size, w4.heap.size] (by first | (simp; done) | (simp; omega)) (by first | exact Below.refl _ _ | (go_grown; done)) hb12
      (try simp only [World.size_alloc, World.size_drew, size_set] at z12)
      have S12 := Lib.hid T12; clear T12 hb12
      have B12 := Lib.hid (B11.out.trans (S12.out.mono (by omega)))
      have b12 : w.heap.size ≤ w12.heap.size := B12.out.size
      have K_12 := Lib.hid (K_11.out.below S12.out (by omega))
      have J_12 := Lib.hid (J_11.out.below S12.out (by omega))
      have M_12 := Lib.hid (R12.mono (show w11.heap.size ≤ _ by first | (simp; done) | (simp; omega)) (Nat.le_refl _))
      clear R12
      go_wp2_with fail
      refine (implOpen9_any _ _ _ _ _ _ _ _ _ _ _ _ _ _ _ (M_12.out.at.below (B := w12.heap.size) (by first | exact Below.refl _ _ | (go_grown; done)) (Nat.le_refl _))).mono ?_; rintro e w13 ⟨⟨A13, c13, rfl, R13⟩, hb13⟩
      obtain ⟨T13, z13, q13, s13, x13, y13⟩ := lkeep (w := w12) [w.heap.size, w4.heap.size] (by first | (simp; done) | (simp; omega)) (by first | exact Below.refl _ _ | (go_grown; done)) hb13
      (try simp only [World.size_alloc, World.size_drew, size_set] at z13)
      have S13 := Lib.hid T13; clear T13 hb13
      have B13 := Lib.hid (B12.out.trans (S13.out.mono (by omega)))
      have b13 : w.heap.size ≤ w13.heap.size := B13.out.size
      have K_13 := Lib.hid (K_12.out.below S13.out (by omega))
      have J_13 := Lib.hid (J_12.out.below S13.out (by omega))
      have M_13 := Lib.hid (M_12.out.below S13.out (by omega))
      have L_13 := Lib.hid (R13.mono (show w12.heap.size ≤ _ by first | (simp; done) | (simp; omega)) (Nat.le_refl _))
      clear R13
      go_wp2_with fail
      refine (eqInt64S_same _ _ _ _ _ _ (L_13.out.at.below (B := w13.heap.size) (by first | exact Below.refl _ _ | (go_grown; done)) (Nat.le_refl _)) (K_13.out.at.below (B := w13.heap.size) (by first | exact Below.refl _ _ | (go_grown; done)) (Nat.le_refl _))).mono ?_; rintro e w14 ⟨rfl, hb14⟩
      obtain ⟨T14, z14, q14, s14, x14, y14⟩ := lkeep (w := w13) [w.heap.size, w4.heap.size] (by first | (simp; done) | (simp; omega)) (by first | exact Below.refl _ _ | (go_grown; done)) hb14
      (try simp only [World.size_alloc, World.size_drew, size_set] at z14)
      have S14 := Lib.hid T14; clear T14 hb14
      have B14 := Lib.hid (B13.out.trans (S14.out.mono (by omega)))
      have b14 : w.heap.size ≤ w14.heap.size := B14.out.size
      have K_14 := Lib.hid (K_13.out.below S14.out (by omega))
      have J_14 := Lib.hid (J_13.out.below S14.out (by omega))
      have L_14 := Lib.hid (L_13.out.below S14.out (by omega))
      go_wp2_with fail
      refine (heldInt64S_any _ _ _ _ _ (J_14.out.at.below (B := w14.heap.size) (by first | exact Below.refl _ _ | (go_grown; done)) (Nat.le_refl _)) (by omega) (by omega) (by omega)).mono ?_; rintro e w' ⟨rfl, rfl⟩
      go_wp2_with fail
      go_ret
      exact ⟨rfl, B14.out⟩
    · skip
      go_enter Try.func9, Try.ntmps9
      go_wp2_with fail
      (refine (szProfile_any _ _ _ _ _ _ _ _ (by omega) (by omega) hn1 hn2).mono ?_; rintro e w1 ⟨rfl, hb1⟩; obtain ⟨B1, hz1, q1, s1, t1, x1, y1, z1⟩ := bkeep (w := w) [w.heap.size] (by first | (simp; done) | (simp; omega)) (by first | (go_grown; done) | exact bdrewN (by go_grown) _) hb1; (try simp at hz1); clear hb1)
      go_wp2
      go_ret
      exact ⟨rfl, B1⟩
  · skip
    go_enter Try.func9, Try.ntmps9
    go_wp2_with fail
    (refine (szProfile_any _ _ _ _ _ _ _ _ (by omega) (by omega) hn1 hn2).mono ?_; rintro e w1 ⟨rfl, hb1⟩; obtain ⟨B1, hz1, q1, s1, t1, x1, y1, z1⟩ := bkeep (w := w) [w.heap.size] (by first | (simp; done) | (simp; omega)) (by first | (go_grown; done) | exact bdrewN (by go_grown) _) hb1; (try simp at hz1); clear hb1)
    go_wp2
    go_ret
    exact ⟨rfl, B1⟩
end Go.Proofs.Ytopggkomkfjbfaa
