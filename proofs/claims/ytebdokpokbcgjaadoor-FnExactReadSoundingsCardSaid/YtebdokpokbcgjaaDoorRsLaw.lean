/- The law of the reader of soundings. -/
import Derived.Test.YtebdokpokbcgjaaDoorRsS
import Derived.Test.YtebdokpokbcgjaaDoorRsI
import Derived.Test.YtebdokpokbcgjaaDoorSndM
namespace Go.Proofs.YtebdokpokbcgjaaDoor
set_option linter.unusedSimpArgs false
set_option linter.unusedVariables false
open Go.RowKit
set_option maxHeartbeats 2000000 in
theorem lawReadSoundings_any (l : List UInt8) (w : World) (ht : RdW w) :
    Calls Tryd.prog 6 #[strL l] w fun e w' => e = .returned (.bool true) ∧ Below w.heap.size w w' := by
  have TB := Lib.hid ht; clear ht
  have hsz : (⟨l.toArray⟩ : ByteArray).size = l.length := rfl
  by_cases hs0 : l.length ≤ 1048576
  · skip
    have hz : ¬ ((1048576 : Int) < l.length) := by omega
    have hL := rs_len l
    have hL0 : (0 : Int) ≤ (rsR l).length := Int.natCast_nonneg _
    go_enter Tryd.func6, Tryd.ntmps6
    go_wp2_with fail
    refine (specReadSoundings_any _ _ hs0).mono ?_; rintro e w1 ⟨⟨A1, c1, rfl, R1⟩, hb1⟩
    obtain ⟨T1, z1, q1, s1, x1, y1⟩ := lkeep (w := w) [] (by first | (simp; done) | (simp; omega)) (by first | exact Below.refl _ _ | (go_grown; done)) hb1
    (try simp only [World.size_alloc, World.size_drew, size_set] at z1)
    have S1 := Lib.hid T1; clear T1 hb1
    have B1 := Lib.hid S1.out
    have b1 : w.heap.size ≤ w1.heap.size := B1.out.size
    have K_1 := Lib.hid (R1.mono (show w.heap.size ≤ _ by first | (simp; done) | (simp; omega)) (Nat.le_refl _)); clear R1
    go_wp2_with fail
    refine (implReadSoundings_any _ _ hs0 ((TB.out.below B1.out (Nat.le_refl _)).below (B := w1.heap.size) (by first | exact Below.refl _ _ | (go_grown; done)) (Nat.le_refl _))).mono ?_; rintro e w2 ⟨⟨A2, c2, rfl, R2⟩, hb2⟩
    obtain ⟨T2, z2, q2, s2, x2, y2⟩ := lkeep (w := w1) [] (by first | (simp; done) | (simp; omega)) (by first | exact Below.refl _ _ | (go_grown; done)) hb2
    (try simp only [World.size_alloc, World.size_drew, size_set] at z2)
    have S2 := Lib.hid T2; clear T2 hb2
    have B2 := Lib.hid (B1.out.trans (S2.out.mono (by omega)))
    have b2 : w.heap.size ≤ w2.heap.size := B2.out.size
    have K_2 := Lib.hid (K_1.out.below S2.out (by omega))
    have J_2 := Lib.hid (R2.mono (show w1.heap.size ≤ _ by first | (simp; done) | (simp; omega)) (Nat.le_refl _)); clear R2
    go_wp2_with fail
    refine (eqSoundingS_same _ _ _ _ _ _ (J_2.out.at.below (B := w2.heap.size) (by first | exact Below.refl _ _ | (go_grown; done)) (Nat.le_refl _)) (K_2.out.at.below (B := w2.heap.size) (by first | exact Below.refl _ _ | (go_grown; done)) (Nat.le_refl _))).mono ?_; rintro e w3 ⟨rfl, hb3⟩
    obtain ⟨T3, z3, q3, s3, x3, y3⟩ := lkeep (w := w2) [] (by first | (simp; done) | (simp; omega)) (by first | exact Below.refl _ _ | (go_grown; done)) hb3
    (try simp only [World.size_alloc, World.size_drew, size_set] at z3)
    have S3 := Lib.hid T3; clear T3 hb3
    have B3 := Lib.hid (B2.out.trans (S3.out.mono (by omega)))
    have b3 : w.heap.size ≤ w3.heap.size := B3.out.size
    have K_3 := Lib.hid (K_2.out.below S3.out (by omega))
    have J_3 := Lib.hid (J_2.out.below S3.out (by omega))
    go_wp2_with fail
    refine (markSoundingR_any _ _ _ _ _ _ _ J_3.out (by omega) (by omega) (by omega)).mono ?_; rintro e w4 ⟨⟨rfl, R4⟩, hb4⟩
    obtain ⟨z4, q4, s4, x4, y4⟩ := ckeep [] (by first | (simp; done) | (simp; omega)) hb4
    have C4 := Lib.hid hb4; clear hb4
    have B4 := Lib.hid (B3.out.trans (C4.out.below (by omega)))
    have b4 : w.heap.size ≤ w4.heap.size := B4.out.size
    have K_4 := Lib.hid (K_3.out.chg C4.out (by omega))
    have J_4 := Lib.hid R4; clear R4
    go_wp2_with fail
    refine (heldSoundingR_any _ _ _ _ _ J_4.out.at (by omega) (by omega) (by omega)).mono ?_; rintro e w' ⟨rfl, rfl⟩
    go_wp2_with fail
    refine (implReadSoundings_any _ _ hs0 ((TB.out.below B4.out (Nat.le_refl _)).below (B := w4.heap.size) (by first | exact Below.refl _ _ | (go_grown; done)) (Nat.le_refl _))).mono ?_; rintro e w5 ⟨⟨A5, c5, rfl, R5⟩, hb5⟩
    obtain ⟨T5, z5, q5, s5, x5, y5⟩ := lkeep (w := w4) [] (by first | (simp; done) | (simp; omega)) (by first | exact Below.refl _ _ | (go_grown; done)) hb5
    (try simp only [World.size_alloc, World.size_drew, size_set] at z5)
    have S5 := Lib.hid T5; clear T5 hb5
    have B5 := Lib.hid (B4.out.trans (S5.out.mono (by omega)))
    have b5 : w.heap.size ≤ w5.heap.size := B5.out.size
    have K_5 := Lib.hid (K_4.out.below S5.out (by omega))
    have J_5 := Lib.hid (J_4.out.below S5.out (by omega))
    have L_5 := Lib.hid (R5.mono (show w4.heap.size ≤ _ by first | (simp; done) | (simp; omega)) (Nat.le_refl _)); clear R5
    go_wp2_with fail
    refine (eqSoundingS_same _ _ _ _ _ _ (L_5.out.at.below (B := w5.heap.size) (by first | exact Below.refl _ _ | (go_grown; done)) (Nat.le_refl _)) (K_5.out.at.below (B := w5.heap.size) (by first | exact Below.refl _ _ | (go_grown; done)) (Nat.le_refl _))).mono ?_; rintro e w6 ⟨rfl, hb6⟩
    obtain ⟨T6, z6, q6, s6, x6, y6⟩ := lkeep (w := w5) [] (by first | (simp; done) | (simp; omega)) (by first | exact Below.refl _ _ | (go_grown; done)) hb6
    (try simp only [World.size_alloc, World.size_drew, size_set] at z6)
    have S6 := Lib.hid T6; clear T6 hb6
    have B6 := Lib.hid (B5.out.trans (S6.out.mono (by omega)))
    have b6 : w.heap.size ≤ w6.heap.size := B6.out.size
    have K_6 := Lib.hid (K_5.out.below S6.out (by omega))
    have J_6 := Lib.hid (J_5.out.below S6.out (by omega))
    have L_6 := Lib.hid (L_5.out.below S6.out (by omega))
    go_wp2_with fail
    refine (heldSoundingR_any _ _ _ _ _ J_6.out.at (by omega) (by omega) (by omega)).mono ?_; rintro e w' ⟨rfl, rfl⟩
    go_wp2_with fail
    go_ret
    exact ⟨rfl, B6.out⟩
  · skip
    have hz : (1048576 : Int) < l.length := by omega
    go_enter Tryd.func6, Tryd.ntmps6
    go_wp2
    go_ret
    exact ⟨rfl, Below.refl _ _⟩
end Go.Proofs.YtebdokpokbcgjaaDoor
