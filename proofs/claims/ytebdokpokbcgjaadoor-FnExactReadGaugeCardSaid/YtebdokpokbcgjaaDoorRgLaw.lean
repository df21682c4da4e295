/- The law of the reader of gauges. -/
import Derived.Test.YtebdokpokbcgjaaDoorRgS
import Derived.Test.YtebdokpokbcgjaaDoorRgI
import Derived.Test.YtebdokpokbcgjaaDoorMark
namespace Go.Proofs.YtebdokpokbcgjaaDoor
set_option linter.unusedSimpArgs false
set_option linter.unusedVariables false
open Go.RowKit
set_option maxHeartbeats 2000000 in
theorem lawReadGauge_any (l : List UInt8) (w : World) (ht : RdW w) :
    Calls Tryd.prog 5 #[strL l] w fun e w' => e = .returned (.bool true) ∧ Below w.heap.size w w' := by
  have TB := Lib.hid ht; clear ht
  have hsz : (⟨l.toArray⟩ : ByteArray).size = l.length := rfl
  by_cases hs0 : l.length ≤ 1048576
  · skip
    have hz : ¬ ((1048576 : Int) < l.length) := by omega
    obtain ⟨hL1, hL2⟩ := rg_len l
    have hL3 : (0 : Int) ≤ (rgT l).length := Int.natCast_nonneg _
    have hL4 : (0 : Int) ≤ (rgL l).length := Int.natCast_nonneg _
    go_enter Tryd.func5, Tryd.ntmps5
    go_wp2_with fail
    refine (specReadGauge_any _ _ hs0).mono ?_; rintro e w1 ⟨⟨A1, c1, A1x, c1x, rfl, R1⟩, hb1⟩
    obtain ⟨T1, z1, q1, s1, x1, y1⟩ := lkeep (w := w) [] (by first | (simp; done) | (simp; omega)) (by first | exact Below.refl _ _ | (go_grown; done)) hb1
    (try simp only [World.size_alloc, World.size_drew, size_set] at z1)
    have S1 := Lib.hid T1; clear T1 hb1
    have B1 := Lib.hid S1.out
    have b1 : w.heap.size ≤ w1.heap.size := B1.out.size
    have K_1 := Lib.hid (R1.mono (show w.heap.size ≤ _ by first | (simp; done) | (simp; omega)) (Nat.le_refl _)); clear R1
    go_wp2_with fail
    refine (implReadGauge_any _ _ hs0 ((TB.out.below B1.out (Nat.le_refl _)).below (B := w1.heap.size) (by first | exact Below.refl _ _ | (go_grown; done)) (Nat.le_refl _))).mono ?_; rintro e w2 ⟨⟨A2, c2, A2x, c2x, rfl, R2⟩, hb2⟩
    obtain ⟨T2, z2, q2, s2, x2, y2⟩ := lkeep (w := w1) [w1.heap.size] (by first | (simp; done) | (simp; omega)) (by first | exact Below.refl _ _ | (go_grown; done)) hb2
    (try simp only [World.size_alloc, World.size_drew, size_set] at z2)
    have S2 := Lib.hid T2; clear T2 hb2
    have B2 := Lib.hid (B1.out.trans (S2.out.mono (by omega)))
    have b2 : w.heap.size ≤ w2.heap.size := B2.out.size
    have K_2 := Lib.hid (K_1.out.below S2.out (by omega))
    have J_2 := Lib.hid (R2.mono (show w1.heap.size + 1 ≤ _ by first | (simp; done) | (simp; omega)) (Nat.le_refl _)); clear R2
    go_wp2_with fail
    refine (eqGauge_same _ _ _ _ _ _ _ _ _ _ _ (J_2.out.at.below (B := w2.heap.size) (by first | exact Below.refl _ _ | (go_grown; done)) (Nat.le_refl _)) (K_2.out.at.below (B := w2.heap.size) (by first | exact Below.refl _ _ | (go_grown; done)) (Nat.le_refl _))).mono ?_; rintro e w3 ⟨rfl, hb3⟩
    obtain ⟨T3, z3, q3, s3, x3, y3⟩ := lkeep (w := w2) [w1.heap.size, w2.heap.size] (by first | (simp; done) | (simp; omega)) (by first | exact Below.refl _ _ | (go_grown; done)) hb3
    (try simp only [World.size_alloc, World.size_drew, size_set] at z3)
    have S3 := Lib.hid T3; clear T3 hb3
    have B3 := Lib.hid (B2.out.trans (S3.out.mono (by omega)))
    have b3 : w.heap.size ≤ w3.heap.size := B3.out.size
    have K_3 := Lib.hid (K_2.out.below S3.out (by omega))
    have J_3 := Lib.hid (J_2.out.below S3.out (by omega))
    go_wp2_with fail
    refine (markGauge_any _ _ _ _ _ _ _ _ _ _ (J_3.out.below (B := w3.heap.size) (by first | exact Below.refl _ _ | (go_grown; done)) (by omega)) (by omega) (by first | omega | (simp; omega)) (by omega) (by omega) (by omega) (by omega)).mono ?_; rintro e w4 ⟨rfl, R4, hb4⟩
    obtain ⟨z4, q4, s4, x4, y4⟩ := ckeepB [w1.heap.size, w2.heap.size] (by first | (simp; done) | (simp; omega)) hb4
    (try simp only [World.size_alloc, World.size_drew, size_set] at z4)
    have C4 := Lib.hid hb4; clear hb4
    have S4 := Lib.hid (C4.out.below (B := w.heap.size) (by omega) (by first | omega | (simp; omega)))
    have B4 := Lib.hid (Below.trans (B := w.heap.size) (show Below w.heap.size w w3 from B3.out) S4.out)
    have b4 : w.heap.size ≤ w4.heap.size := B4.out.size
    have K_4 := Lib.hid (K_3.out.chgB C4.out (by omega))
    have J_4 := Lib.hid R4; clear R4
    go_wp2_with fail
    refine (heldGauge_any _ _ _ _ _ _ _ _ (J_4.out.at.below (B := w4.heap.size) (by first | exact Below.refl _ _ | (go_grown; done)) (Nat.le_refl _)) (by omega) (by omega) (by omega) (by omega)).mono ?_; rintro e w5 ⟨rfl, hb5⟩
    obtain ⟨T5, z5, q5, s5, x5, y5⟩ := lkeep (w := w4) [w1.heap.size, w2.heap.size] (by first | (simp; done) | (simp; omega)) (by first | exact Below.refl _ _ | (go_grown; done)) hb5
    (try simp only [World.size_alloc, World.size_drew, size_set] at z5)
    have S5 := Lib.hid T5; clear T5 hb5
    have B5 := Lib.hid (B4.out.trans (S5.out.mono (by omega)))
    have b5 : w.heap.size ≤ w5.heap.size := B5.out.size
    have K_5 := Lib.hid (K_4.out.below S5.out (by omega))
    have J_5 := Lib.hid (J_4.out.below S5.out (by omega))
    go_wp2_with fail
    refine (implReadGauge_any _ _ hs0 ((TB.out.below B5.out (Nat.le_refl _)).below (B := w5.heap.size) (by first | exact Below.refl _ _ | (go_grown; done)) (Nat.le_refl _))).mono ?_; rintro e w6 ⟨⟨A6, c6, A6x, c6x, rfl, R6⟩, hb6⟩
    obtain ⟨T6, z6, q6, s6, x6, y6⟩ := lkeep (w := w5) [w1.heap.size, w2.heap.size] (by first | (simp; done) | (simp; omega)) (by first | exact Below.refl _ _ | (go_grown; done)) hb6
    (try simp only [World.size_alloc, World.size_drew, size_set] at z6)
    have S6 := Lib.hid T6; clear T6 hb6
    have B6 := Lib.hid (B5.out.trans (S6.out.mono (by omega)))
    have b6 : w.heap.size ≤ w6.heap.size := B6.out.size
    have K_6 := Lib.hid (K_5.out.below S6.out (by omega))
    have J_6 := Lib.hid (J_5.out.below S6.out (by omega))
    have L_6 := Lib.hid (R6.mono (show w5.heap.size ≤ _ by first | (simp; done) | (simp; omega)) (Nat.le_refl _)); clear R6
    go_wp2_with fail
    refine (eqGauge_same _ _ _ _ _ _ _ _ _ _ _ (L_6.out.at.below (B := w6.heap.size) (by first | exact Below.refl _ _ | (go_grown; done)) (Nat.le_refl _)) (K_6.out.at.below (B := w6.heap.size) (by first | exact Below.refl _ _ | (go_grown; done)) (Nat.le_refl _))).mono ?_; rintro e w7 ⟨rfl, hb7⟩
    obtain ⟨T7, z7, q7, s7, x7, y7⟩ := lkeep (w := w6) [w1.heap.size, w2.heap.size, w6.heap.size] (by first | (simp; done) | (simp; omega)) (by first | exact Below.refl _ _ | (go_grown; done)) hb7
    (try simp only [World.size_alloc, World.size_drew, size_set] at z7)
    have S7 := Lib.hid T7; clear T7 hb7
    have B7 := Lib.hid (B6.out.trans (S7.out.mono (by omega)))
    have b7 : w.heap.size ≤ w7.heap.size := B7.out.size
    have K_7 := Lib.hid (K_6.out.below S7.out (by omega))
    have J_7 := Lib.hid (J_6.out.below S7.out (by omega))
    have L_7 := Lib.hid (L_6.out.below S7.out (by omega))
    go_wp2_with fail
    refine (heldGauge_any _ _ _ _ _ _ _ _ (J_7.out.at.below (B := w7.heap.size) (by first | exact Below.refl _ _ | (go_grown; done)) (Nat.le_refl _)) (by omega) (by omega) (by omega) (by omega)).mono ?_; rintro e w8 ⟨rfl, hb8⟩
    obtain ⟨T8, z8, q8, s8, x8, y8⟩ := lkeep (w := w7) [w1.heap.size, w2.heap.size, w6.heap.size] (by first | (simp; done) | (simp; omega)) (by first | exact Below.refl _ _ | (go_grown; done)) hb8
    (try simp only [World.size_alloc, World.size_drew, size_set] at z8)
    have S8 := Lib.hid T8; clear T8 hb8
    have B8 := Lib.hid (B7.out.trans (S8.out.mono (by omega)))
    have b8 : w.heap.size ≤ w8.heap.size := B8.out.size
    have K_8 := Lib.hid (K_7.out.below S8.out (by omega))
    have J_8 := Lib.hid (J_7.out.below S8.out (by omega))
    have L_8 := Lib.hid (L_7.out.below S8.out (by omega))
    go_wp2_with fail
    go_ret
    exact ⟨rfl, B8.out⟩
  · skip
    have hz : (1048576 : Int) < l.length := by omega
    go_enter Tryd.func5, Tryd.ntmps5
    go_wp2
    go_ret
    exact ⟨rfl, Below.refl _ _⟩
end Go.Proofs.YtebdokpokbcgjaaDoor
