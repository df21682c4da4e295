/- The law of ThinSoundings. -/
import Derived.Test.YtbbnnahjghlnoaaThS
import Derived.Test.YtbbnnahjghlnoaaThI
import Derived.Test.YtbbnnahjghlnoaaSnd2
namespace Go.Proofs.Ytbbnnahjghlnoaa
set_option linter.unusedSimpArgs false
set_option linter.unusedVariables false
open Go.RowKit

theorem thL_len {xs : List Snd} (r : Int) : (thL xs r).length ≤ 200 := by
  unfold thL
  split
  · rename_i h
    have hv : sndsB xs = true := by
      cases q : sndsB xs
      · simp [thE, q] at h
      · rfl
    have a := thTo_len xs r xs.length
    have b := snds_len hv
    omega
  · simp
set_option maxHeartbeats 8000000 in
theorem lawThinSoundings_any (A : Option Addr) (c : Nat) (xs : List Snd) (r : Int) (w : World) (hx : SndsAt w A c xs) :
    Calls Try.prog 5 #[.slice A xs.length c, .int .i64 r] w fun e w' => e = .returned (.bool true) ∧ Below w.heap.size w w' := by
  have hn := Nat.le_trans hx.1 hx.2.1
  have HX := Lib.hid hx; clear hx
  by_cases hs0 : xs.length ≤ 1048576
  · skip
    have hz : ¬ ((1048576 : Int) - xs.length < 0) := by omega
    have hL := thL_len (xs := xs) r
    have hL0 : (0 : Int) ≤ (thL xs r).length := Int.natCast_nonneg _
    have hx0 : (0 : Int) ≤ xs.length := Int.natCast_nonneg _
    go_enter Try.func5, Try.ntmps5
    go_wp2_with fail
    refine (szSoundingS_any _ _ _ _ _ (by omega) (by omega) hn).mono ?_; rintro e w' ⟨rfl, rfl⟩
    go_wp2_with fail
    refine (toSoundingS_any _ _ _ _ (HX.out.below (B := w.heap.size) (by first | exact Below.refl _ _ | (go_grown; done)) (Nat.le_refl _)) hs0).mono ?_; rintro e w1 ⟨⟨g1, rfl, R1⟩, hb1⟩
    obtain ⟨T1, z1, q1, s1, x1, y1⟩ := lkeep (w := w) [] (by first | (simp; done) | (simp; omega)) (by first | exact Below.refl _ _ | (go_grown; done)) hb1
    (try simp only [World.size_alloc, World.size_drew, size_set] at z1)
    have S1 := Lib.hid T1; clear T1 hb1
    have B1 := Lib.hid S1.out
    have b1 : w.heap.size ≤ w1.heap.size := B1.out.size
    have M0_1 := Lib.hid (R1.mono (show w.heap.size ≤ _ by first | (simp; done) | (simp; omega)) (Nat.le_refl _)); clear R1
    go_wp2_with fail
    refine (specThin_any _ _ _ _ _ (M0_1.out.at.below (B := w1.heap.size) (by first | exact Below.refl _ _ | (go_grown; done)) (Nat.le_refl _))).mono ?_; rintro e w2 ⟨⟨A2, c2, rfl, R2⟩, hb2⟩
    obtain ⟨T2, z2, q2, s2, x2, y2⟩ := lkeep (w := w1) [] (by first | (simp; done) | (simp; omega)) (by first | exact Below.refl _ _ | (go_grown; done)) hb2
    (try simp only [World.size_alloc, World.size_drew, size_set] at z2)
    have S2 := Lib.hid T2; clear T2 hb2
    have B2 := Lib.hid (B1.out.trans (S2.out.mono (by omega)))
    have b2 : w.heap.size ≤ w2.heap.size := B2.out.size
    have M0_2 := Lib.hid (M0_1.out.below S2.out (by omega))
    have K_2 := Lib.hid (R2.mono (show w1.heap.size ≤ _ by first | (simp; done) | (simp; omega)) (Nat.le_refl _)); clear R2
    go_wp2_with fail
    refine (toSoundingS_any _ _ _ _ ((HX.out.below B2.out (Nat.le_refl _)).below (B := w2.heap.size) (by first | exact Below.refl _ _ | (go_grown; done)) (Nat.le_refl _)) hs0).mono ?_; rintro e w3 ⟨⟨g3, rfl, R3⟩, hb3⟩
    obtain ⟨T3, z3, q3, s3, x3, y3⟩ := lkeep (w := w2) [] (by first | (simp; done) | (simp; omega)) (by first | exact Below.refl _ _ | (go_grown; done)) hb3
    (try simp only [World.size_alloc, World.size_drew, size_set] at z3)
    have S3 := Lib.hid T3; clear T3 hb3
    have B3 := Lib.hid (B2.out.trans (S3.out.mono (by omega)))
    have b3 : w.heap.size ≤ w3.heap.size := B3.out.size
    have K_3 := Lib.hid (K_2.out.below S3.out (by omega))
    have X0_3 := Lib.hid (R3.mono (show w2.heap.size ≤ _ by first | (simp; done) | (simp; omega)) (Nat.le_refl _)); clear R3
    go_wp2_with fail
    refine (implThin_any _ _ _ _ _ (X0_3.out.at.below (B := w3.heap.size) (by first | exact Below.refl _ _ | (go_grown; done)) (Nat.le_refl _))).mono ?_; rintro e w4 ⟨⟨A4, c4, rfl, R4⟩, hb4⟩
    obtain ⟨T4, z4, q4, s4, x4, y4⟩ := lkeep (w := w3) [] (by first | (simp; done) | (simp; omega)) (by first | exact Below.refl _ _ | (go_grown; done)) hb4
    (try simp only [World.size_alloc, World.size_drew, size_set] at z4)
    have S4 := Lib.hid T4; clear T4 hb4
    have B4 := Lib.hid (B3.out.trans (S4.out.mono (by omega)))
    have b4 : w.heap.size ≤ w4.heap.size := B4.out.size
    have K_4 := Lib.hid (K_3.out.below S4.out (by omega))
    have X0_4 := Lib.hid (X0_3.out.below S4.out (by omega))
    have J_4 := Lib.hid (R4.mono (show w3.heap.size ≤ _ by first | (simp; done) | (simp; omega)) (Nat.le_refl _)); clear R4
    go_wp2_with fail
    refine (eqInt64S_same _ _ _ _ _ _ (J_4.out.at.below (B := w4.heap.size) (by first | exact Below.refl _ _ | (go_grown; done)) (Nat.le_refl _)) (K_4.out.at.below (B := w4.heap.size) (by first | exact Below.refl _ _ | (go_grown; done)) (Nat.le_refl _))).mono ?_; rintro e w5 ⟨rfl, hb5⟩
    obtain ⟨T5, z5, q5, s5, x5, y5⟩ := lkeep (w := w4) [] (by first | (simp; done) | (simp; omega)) (by first | exact Below.refl _ _ | (go_grown; done)) hb5
    (try simp only [World.size_alloc, World.size_drew, size_set] at z5)
    have S5 := Lib.hid T5; clear T5 hb5
    have B5 := Lib.hid (B4.out.trans (S5.out.mono (by omega)))
    have b5 : w.heap.size ≤ w5.heap.size := B5.out.size
    have K_5 := Lib.hid (K_4.out.below S5.out (by omega))
    have X0_5 := Lib.hid (X0_4.out.below S5.out (by omega))
    have J_5 := Lib.hid (J_4.out.below S5.out (by omega))
    go_wp2_with fail
    refine (toSoundingS_any _ _ _ _ ((HX.out.below B5.out (Nat.le_refl _)).below (B := w5.heap.size) (by first | exact Below.refl _ _ | (go_grown; done)) (Nat.le_refl _)) hs0).mono ?_; rintro e w6 ⟨⟨g6, rfl, R6⟩, hb6⟩
    obtain ⟨T6, z6, q6, s6, x6, y6⟩ := lkeep (w := w5) [] (by first | (simp; done) | (simp; omega)) (by first | exact Below.refl _ _ | (go_grown; done)) hb6
    (try simp only [World.size_alloc, World.size_drew, size_set] at z6)
    have S6 := Lib.hid T6; clear T6 hb6
    have B6 := Lib.hid (B5.out.trans (S6.out.mono (by omega)))
    have b6 : w.heap.size ≤ w6.heap.size := B6.out.size
    have K_6 := Lib.hid (K_5.out.below S6.out (by omega))
    have X0_6 := Lib.hid (X0_5.out.below S6.out (by omega))
    have J_6 := Lib.hid (J_5.out.below S6.out (by omega))
    have Y_6 := Lib.hid (R6.mono (show w5.heap.size ≤ _ by first | (simp; done) | (simp; omega)) (Nat.le_refl _)); clear R6
    go_wp2_with fail
    refine (eqSoundingS_same _ _ _ _ _ _ (X0_6.out.at.below (B := w6.heap.size) (by first | exact Below.refl _ _ | (go_grown; done)) (Nat.le_refl _)) (Y_6.out.at.below (B := w6.heap.size) (by first | exact Below.refl _ _ | (go_grown; done)) (Nat.le_refl _))).mono ?_; rintro e w7 ⟨rfl, hb7⟩
    obtain ⟨T7, z7, q7, s7, x7, y7⟩ := lkeep (w := w6) [] (by first | (simp; done) | (simp; omega)) (by first | exact Below.refl _ _ | (go_grown; done)) hb7
    (try simp only [World.size_alloc, World.size_drew, size_set] at z7)
    have S7 := Lib.hid T7; clear T7 hb7
    have B7 := Lib.hid (B6.out.trans (S7.out.mono (by omega)))
    have b7 : w.heap.size ≤ w7.heap.size := B7.out.size
    have K_7 := Lib.hid (K_6.out.below S7.out (by omega))
    have X0_7 := Lib.hid (X0_6.out.below S7.out (by omega))
    have J_7 := Lib.hid (J_6.out.below S7.out (by omega))
    have Y_7 := Lib.hid (Y_6.out.below S7.out (by omega))
    go_wp2_with fail
    refine (markSoundingS_any _ _ _ _ _ _ _ X0_7.out (by omega) (by omega) (by omega)).mono ?_; rintro e w8 ⟨rfl, hb8⟩
    obtain ⟨z8, q8, s8, x8, y8⟩ := ckeep [] (by first | (simp; done) | (simp; omega)) hb8
    have C8 := Lib.hid hb8; clear hb8
    have B8 := Lib.hid (B7.out.trans (C8.out.below (by omega)))
    have b8 : w.heap.size ≤ w8.heap.size := B8.out.size
    have K_8 := Lib.hid (K_7.out.chg C8.out (by omega))
    have J_8 := Lib.hid (J_7.out.chg C8.out (by omega))
    go_wp2_with fail
    refine (eqInt64S_same _ _ _ _ _ _ (J_8.out.at.below (B := w8.heap.size) (by first | exact Below.refl _ _ | (go_grown; done)) (Nat.le_refl _)) (K_8.out.at.below (B := w8.heap.size) (by first | exact Below.refl _ _ | (go_grown; done)) (Nat.le_refl _))).mono ?_; rintro e w9 ⟨rfl, hb9⟩
    obtain ⟨T9, z9, q9, s9, x9, y9⟩ := lkeep (w := w8) [] (by first | (simp; done) | (simp; omega)) (by first | exact Below.refl _ _ | (go_grown; done)) hb9
    (try simp only [World.size_alloc, World.size_drew, size_set] at z9)
    have S9 := Lib.hid T9; clear T9 hb9
    have B9 := Lib.hid (B8.out.trans (S9.out.mono (by omega)))
    have b9 : w.heap.size ≤ w9.heap.size := B9.out.size
    have K_9 := Lib.hid (K_8.out.below S9.out (by omega))
    have J_9 := Lib.hid (J_8.out.below S9.out (by omega))
    go_wp2_with fail
    refine (markInt64S_any _ _ _ _ _ _ _ J_9.out (by omega) (by omega) (by omega)).mono ?_; rintro e w10 ⟨rfl, R10, hb10⟩
    obtain ⟨z10, q10, s10, x10, y10⟩ := ckeep [] (by first | (simp; done) | (simp; omega)) hb10
    have C10 := Lib.hid hb10; clear hb10
    have B10 := Lib.hid (B9.out.trans (C10.out.below (by omega)))
    have b10 : w.heap.size ≤ w10.heap.size := B10.out.size
    have K_10 := Lib.hid (K_9.out.chg C10.out (by omega))
    have J_10 := Lib.hid R10; clear R10
    go_wp2_with fail
    refine (heldInt64S_any _ _ _ _ _ J_10.out.at (by omega) (by omega) (by omega)).mono ?_; rintro e w' ⟨rfl, rfl⟩
    go_wp2_with fail
    refine (toSoundingS_any _ _ _ _ ((HX.out.below B10.out (Nat.le_refl _)).below (B := w10.heap.size) (by first | exact Below.refl _ _ | (go_grown; done)) (Nat.le_refl _)) hs0).mono ?_; rintro e w11 ⟨⟨g11, rfl, R11⟩, hb11⟩
    obtain ⟨T11, z11, q11, s11, x11, y11⟩ := lkeep (w := w10) [] (by first | (simp; done) | (simp; omega)) (by first | exact Below.refl _ _ | (go_grown; done)) hb11
    (try simp only [World.size_alloc, World.size_drew, size_set] at z11)
    have S11 := Lib.hid T11; clear T11 hb11
    have B11 := Lib.hid (B10.out.trans (S11.out.mono (by omega)))
    have b11 : w.heap.size ≤ w11.heap.size := B11.out.size
    have K_11 := Lib.hid (K_10.out.below S11.out (by omega))
    have J_11 := Lib.hid (J_10.out.below S11.out (by omega))
    have Z0_11 := Lib.hid (R11.mono (show w10.heap.size ≤ _ by first | (simp; done) | (simp; omega)) (Nat.le_refl _)); clear R11
    go_wp2_with fail
    refine (implThin_any _ _ _ _ _ (Z0_11.out.at.below (B := w11.heap.size) (by first | exact Below.refl _ _ | (go_grown; done)) (Nat.le_refl _))).mono ?_; rintro e w12 ⟨⟨A12, c12, rfl, R12⟩, hb12⟩
    obtain ⟨T12, z12, q12, s12, x12, y12⟩ := lkeep (w := w11) [] (by first | (simp; done) | (simp; omega)) (by first | exact Below.refl _ _ | (go_grown; done)) hb12
    (try simp only [World.size_alloc, World.size_drew, size_set] at z12)
    have S12 := Lib.hid T12; clear T12 hb12
    have B12 := Lib.hid (B11.out.trans (S12.out.mono (by omega)))
    have b12 : w.heap.size ≤ w12.heap.size := B12.out.size
    have K_12 := Lib.hid (K_11.out.below S12.out (by omega))
    have J_12 := Lib.hid (J_11.out.below S12.out (by omega))
    have Z0_12 := Lib.hid (Z0_11.out.below S12.out (by omega))
    have L_12 := Lib.hid (R12.mono (show w11.heap.size ≤ _ by first | (simp; done) | (simp; omega)) (Nat.le_refl _)); clear R12
    go_wp2_with fail
    refine (eqInt64S_same _ _ _ _ _ _ (L_12.out.at.below (B := w12.heap.size) (by first | exact Below.refl _ _ | (go_grown; done)) (Nat.le_refl _)) (K_12.out.at.below (B := w12.heap.size) (by first | exact Below.refl _ _ | (go_grown; done)) (Nat.le_refl _))).mono ?_; rintro e w13 ⟨rfl, hb13⟩
    obtain ⟨T13, z13, q13, s13, x13, y13⟩ := lkeep (w := w12) [] (by first | (simp; done) | (simp; omega)) (by first | exact Below.refl _ _ | (go_grown; done)) hb13
    (try simp only [World.size_alloc, World.size_drew, size_set] at z13)
    have S13 := Lib.hid T13; clear T13 hb13
    have B13 := Lib.hid (B12.out.trans (S13.out.mono (by omega)))
    have b13 : w.heap.size ≤ w13.heap.size := B13.out.size
    have K_13 := Lib.hid (K_12.out.below S13.out (by omega))
    have J_13 := Lib.hid (J_12.out.below S13.out (by omega))
    have L_13 := Lib.hid (L_12.out.below S13.out (by omega))
    go_wp2_with fail
    refine (heldInt64S_any _ _ _ _ _ J_13.out.at (by omega) (by omega) (by omega)).mono ?_; rintro e w' ⟨rfl, rfl⟩
    go_wp2_with fail
    go_ret
    exact ⟨rfl, B13.out⟩
  · skip
    have hz : (1048576 : Int) - xs.length < 0 := by omega
    go_enter Try.func5, Try.ntmps5
    go_wp2_with fail
    refine (szSoundingS_any _ _ _ _ _ (by omega) (by omega) hn).mono ?_; rintro e w' ⟨rfl, rfl⟩
    go_wp2_with fail
    go_ret
    exact ⟨rfl, Below.refl _ _⟩
end Go.Proofs.Ytbbnnahjghlnoaa
