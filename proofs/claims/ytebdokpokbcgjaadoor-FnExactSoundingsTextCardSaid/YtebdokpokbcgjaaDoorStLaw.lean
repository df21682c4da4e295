/- The law of the text of a list of soundings. -/
import Derived.Test.YtebdokpokbcgjaaDoorStS
import Derived.Test.YtebdokpokbcgjaaDoorStI
namespace Go.Proofs.YtebdokpokbcgjaaDoor
set_option linter.unusedSimpArgs false
set_option linter.unusedVariables false
open Go.RowKit
set_option maxHeartbeats 2000000 in
theorem lawSoundingsText_any (A : Option Addr) (c : Nat) (xs : List Snd) (w : World) (ht : TabW w) (hx : SndsAt w A c xs) :
    Calls Tryd.prog 4 #[.slice A xs.length c] w fun e w' => e = .returned (.bool true) ∧ Below w.heap.size w w' := by
  have hn := Nat.le_trans hx.1 hx.2.1
  have HX := Lib.hid hx; clear hx
  have TB := Lib.hid ht; clear ht
  by_cases hs0 : xs.length ≤ 1048576
  · skip
    have hz : ¬ ((1048576 : Int) - xs.length < 0) := by omega
    go_enter Tryd.func4, Tryd.ntmps4
    go_wp2_with fail
    refine (szSoundingS_any _ _ _ _ _ (by omega) (by omega) hn).mono ?_; rintro e w' ⟨rfl, rfl⟩
    go_wp2_with fail
    refine (toSoundingS_any _ _ _ _ (HX.out.below (B := w.heap.size) (by first | exact Below.refl _ _ | (go_grown; done)) (Nat.le_refl _)) hs0).mono ?_; rintro e w1 ⟨⟨g1, rfl, R1⟩, hb1⟩
    obtain ⟨T1, z1, q1, s1, x1, y1⟩ := lkeep (w := w) [] (by first | (simp; done) | (simp; omega)) (by first | exact Below.refl _ _ | (go_grown; done)) hb1
    (try simp only [World.size_alloc, World.size_drew, size_set] at z1)
    have S1 := Lib.hid T1; clear T1 hb1
    have B1 := Lib.hid S1.out
    have b1 : w.heap.size ≤ w1.heap.size := B1.out.size
    have M0_1 := Lib.hid (R1.mono (show w.heap.size ≤ _ by first | (simp; done) | (simp; omega)) (Nat.le_refl _)); clear R1
    go_wp2_with fail
    refine (specSoundingsText_any _ _ _ _ (M0_1.out.at.below (B := w1.heap.size) (by first | exact Below.refl _ _ | (go_grown; done)) (Nat.le_refl _))).mono ?_; rintro e w2 ⟨rfl, hb2⟩
    obtain ⟨T2, z2, q2, s2, x2, y2⟩ := lkeep (w := w1) [] (by first | (simp; done) | (simp; omega)) (by first | exact Below.refl _ _ | (go_grown; done)) hb2
    (try simp only [World.size_alloc, World.size_drew, size_set] at z2)
    have S2 := Lib.hid T2; clear T2 hb2
    have B2 := Lib.hid (B1.out.trans (S2.out.mono (by omega)))
    have b2 : w.heap.size ≤ w2.heap.size := B2.out.size
    have M0_2 := Lib.hid (M0_1.out.below S2.out (by omega))
    go_wp2_with fail
    refine (toSoundingS_any _ _ _ _ ((HX.out.below B2.out (Nat.le_refl _)).below (B := w2.heap.size) (by first | exact Below.refl _ _ | (go_grown; done)) (Nat.le_refl _)) hs0).mono ?_; rintro e w3 ⟨⟨g3, rfl, R3⟩, hb3⟩
    obtain ⟨T3, z3, q3, s3, x3, y3⟩ := lkeep (w := w2) [] (by first | (simp; done) | (simp; omega)) (by first | exact Below.refl _ _ | (go_grown; done)) hb3
    (try simp only [World.size_alloc, World.size_drew, size_set] at z3)
    have S3 := Lib.hid T3; clear T3 hb3
    have B3 := Lib.hid (B2.out.trans (S3.out.mono (by omega)))
    have b3 : w.heap.size ≤ w3.heap.size := B3.out.size
    have X0_3 := Lib.hid (R3.mono (show w2.heap.size ≤ _ by first | (simp; done) | (simp; omega)) (Nat.le_refl _)); clear R3
    go_wp2_with fail
    refine (implSoundingsText_any _ _ _ _ ((TB.out.below B3.out (Nat.le_refl _)).below (B := w3.heap.size) (by first | exact Below.refl _ _ | (go_grown; done)) (Nat.le_refl _)) (X0_3.out.at.below (B := w3.heap.size) (by first | exact Below.refl _ _ | (go_grown; done)) (Nat.le_refl _))).mono ?_; rintro e w4 ⟨rfl, hb4⟩
    obtain ⟨T4, z4, q4, s4, x4, y4⟩ := lkeep (w := w3) [] (by first | (simp; done) | (simp; omega)) (by first | exact Below.refl _ _ | (go_grown; done)) hb4
    (try simp only [World.size_alloc, World.size_drew, size_set] at z4)
    have S4 := Lib.hid T4; clear T4 hb4
    have B4 := Lib.hid (B3.out.trans (S4.out.mono (by omega)))
    have b4 : w.heap.size ≤ w4.heap.size := B4.out.size
    have X0_4 := Lib.hid (X0_3.out.below S4.out (by omega))
    go_wp2_with fail
    refine (toSoundingS_any _ _ _ _ ((HX.out.below B4.out (Nat.le_refl _)).below (B := w4.heap.size) (by first | exact Below.refl _ _ | (go_grown; done)) (Nat.le_refl _)) hs0).mono ?_; rintro e w5 ⟨⟨g5, rfl, R5⟩, hb5⟩
    obtain ⟨T5, z5, q5, s5, x5, y5⟩ := lkeep (w := w4) [] (by first | (simp; done) | (simp; omega)) (by first | exact Below.refl _ _ | (go_grown; done)) hb5
    (try simp only [World.size_alloc, World.size_drew, size_set] at z5)
    have S5 := Lib.hid T5; clear T5 hb5
    have B5 := Lib.hid (B4.out.trans (S5.out.mono (by omega)))
    have b5 : w.heap.size ≤ w5.heap.size := B5.out.size
    have X0_5 := Lib.hid (X0_4.out.below S5.out (by omega))
    have Y_5 := Lib.hid (R5.mono (show w4.heap.size ≤ _ by first | (simp; done) | (simp; omega)) (Nat.le_refl _)); clear R5
    go_wp2_with fail
    refine (eqSoundingS_same _ _ _ _ _ _ (X0_5.out.at.below (B := w5.heap.size) (by first | exact Below.refl _ _ | (go_grown; done)) (Nat.le_refl _)) (Y_5.out.at.below (B := w5.heap.size) (by first | exact Below.refl _ _ | (go_grown; done)) (Nat.le_refl _))).mono ?_; rintro e w6 ⟨rfl, hb6⟩
    obtain ⟨T6, z6, q6, s6, x6, y6⟩ := lkeep (w := w5) [] (by first | (simp; done) | (simp; omega)) (by first | exact Below.refl _ _ | (go_grown; done)) hb6
    (try simp only [World.size_alloc, World.size_drew, size_set] at z6)
    have S6 := Lib.hid T6; clear T6 hb6
    have B6 := Lib.hid (B5.out.trans (S6.out.mono (by omega)))
    have b6 : w.heap.size ≤ w6.heap.size := B6.out.size
    have X0_6 := Lib.hid (X0_5.out.below S6.out (by omega))
    have Y_6 := Lib.hid (Y_5.out.below S6.out (by omega))
    go_wp2_with fail
    go_ret
    exact ⟨rfl, B6.out⟩
  · skip
    have hz : (1048576 : Int) - xs.length < 0 := by omega
    go_enter Tryd.func4, Tryd.ntmps4
    go_wp2_with fail
    refine (szSoundingS_any _ _ _ _ _ (by omega) (by omega) hn).mono ?_; rintro e w' ⟨rfl, rfl⟩
    go_wp2_with fail
    go_ret
    exact ⟨rfl, Below.refl _ _⟩
end Go.Proofs.YtebdokpokbcgjaaDoor
