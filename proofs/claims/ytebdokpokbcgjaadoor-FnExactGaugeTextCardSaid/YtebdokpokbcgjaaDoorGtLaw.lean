/- The law of the text of a gauge. -/
import Derived.Test.YtebdokpokbcgjaaDoorGtI
namespace Go.Proofs.YtebdokpokbcgjaaDoor
set_option linter.unusedSimpArgs false
set_option linter.unusedVariables false
open Go.RowKit
set_option maxHeartbeats 2000000 in
theorem lawGaugeText_any (A1 A2 : Option Addr) (c1 c2 : Nat) (ds ss : List Int) (w : World) (ht : TabW w) (h : ProfAt w A1 c1 A2 c2 ds ss) :
    Calls Tryd.prog 3 #[profV A1 ds.length c1 A2 ss.length c2] w fun e w' => e = .returned (.bool true) ∧ Below w.heap.size w w' := by
  have hn1 := Nat.le_trans h.1.1 h.1.2.1
  have hn2 := Nat.le_trans h.2.1 h.2.2.1
  have H1 := Lib.hid h.1; have H2 := Lib.hid h.2; clear h
  have TB := Lib.hid ht; clear ht
  by_cases hs0 : ¬ (1048576 : Int) - ds.length < 0
  · skip
    by_cases hs1 : ¬ (1048576 : Int) - ds.length - ss.length < 0
    · skip
      go_enter Tryd.func3, Tryd.ntmps3
      go_wp2_with fail
      refine (szGauge_any _ _ _ _ _ _ _ _ (by omega) (by omega) hn1 hn2).mono ?_; rintro e w1 ⟨rfl, hb1⟩
      obtain ⟨T1, z1, q1, s1, x1, y1⟩ := lkeep (w := w) [w.heap.size] (by first | (simp; done) | (simp; omega)) (by first | exact Below.refl _ _ | (go_grown; done)) hb1
      (try simp only [World.size_alloc, World.size_drew, size_set] at z1)
      have S1 := Lib.hid T1; clear T1 hb1
      have B1 := Lib.hid S1.out
      have b1 : w.heap.size ≤ w1.heap.size := B1.out.size
      go_wp2_with fail
      refine (toGauge_any _ _ _ _ _ _ _ ((H1.out.below B1.out (Nat.le_refl _)).below (B := w1.heap.size) (by first | exact Below.refl _ _ | (go_grown; done)) (Nat.le_refl _)) ((H2.out.below B1.out (Nat.le_refl _)).below (B := w1.heap.size) (by first | exact Below.refl _ _ | (go_grown; done)) (Nat.le_refl _)) (by omega) (by omega)).mono ?_; rintro e w2 ⟨⟨g2, g2x, rfl, R2⟩, hb2⟩
      obtain ⟨T2, z2, q2, s2, x2, y2⟩ := lkeep (w := w1) [w.heap.size] (by first | (simp; done) | (simp; omega)) (by first | exact Below.refl _ _ | (go_grown; done)) hb2
      (try simp only [World.size_alloc, World.size_drew, size_set] at z2)
      have S2 := Lib.hid T2; clear T2 hb2
      have B2 := Lib.hid (B1.out.trans (S2.out.mono (by omega)))
      have b2 : w.heap.size ≤ w2.heap.size := B2.out.size
      have M0_2 := Lib.hid (R2.mono (show w1.heap.size ≤ _ by first | (simp; done) | (simp; omega)) (Nat.le_refl _)); clear R2
      go_wp2_with fail
      refine (specGaugeText_any _ _ _ _ _ _ _ (M0_2.out.at.below (B := w2.heap.size) (by first | exact Below.refl _ _ | (go_grown; done)) (Nat.le_refl _))).mono ?_; rintro e w3 ⟨rfl, hb3⟩
      obtain ⟨T3, z3, q3, s3, x3, y3⟩ := lkeep (w := w2) [w.heap.size] (by first | (simp; done) | (simp; omega)) (by first | exact Below.refl _ _ | (go_grown; done)) hb3
      (try simp only [World.size_alloc, World.size_drew, size_set] at z3)
      have S3 := Lib.hid T3; clear T3 hb3
      have B3 := Lib.hid (B2.out.trans (S3.out.mono (by omega)))
      have b3 : w.heap.size ≤ w3.heap.size := B3.out.size
      have M0_3 := Lib.hid (M0_2.out.below S3.out (by omega))
      go_wp2_with fail
      refine (toGauge_any _ _ _ _ _ _ _ ((H1.out.below B3.out (Nat.le_refl _)).below (B := w3.heap.size) (by first | exact Below.refl _ _ | (go_grown; done)) (Nat.le_refl _)) ((H2.out.below B3.out (Nat.le_refl _)).below (B := w3.heap.size) (by first | exact Below.refl _ _ | (go_grown; done)) (Nat.le_refl _)) (by omega) (by omega)).mono ?_; rintro e w4 ⟨⟨g4, g4x, rfl, R4⟩, hb4⟩
      obtain ⟨T4, z4, q4, s4, x4, y4⟩ := lkeep (w := w3) [w.heap.size] (by first | (simp; done) | (simp; omega)) (by first | exact Below.refl _ _ | (go_grown; done)) hb4
      (try simp only [World.size_alloc, World.size_drew, size_set] at z4)
      have S4 := Lib.hid T4; clear T4 hb4
      have B4 := Lib.hid (B3.out.trans (S4.out.mono (by omega)))
      have b4 : w.heap.size ≤ w4.heap.size := B4.out.size
      have X0_4 := Lib.hid (R4.mono (show w3.heap.size ≤ _ by first | (simp; done) | (simp; omega)) (Nat.le_refl _)); clear R4
      go_wp2_with fail
      refine (implGaugeText_any _ _ _ _ _ _ _ ((TB.out.below B4.out (Nat.le_refl _)).below (B := w4.heap.size) (by first | exact Below.refl _ _ | (go_grown; done)) (Nat.le_refl _)) (X0_4.out.at.below (B := w4.heap.size) (by first | exact Below.refl _ _ | (go_grown; done)) (Nat.le_refl _))).mono ?_; rintro e w5 ⟨rfl, hb5⟩
      obtain ⟨T5, z5, q5, s5, x5, y5⟩ := lkeep (w := w4) [w.heap.size, w4.heap.size] (by first | (simp; done) | (simp; omega)) (by first | exact Below.refl _ _ | (go_grown; done)) hb5
      (try simp only [World.size_alloc, World.size_drew, size_set] at z5)
      have S5 := Lib.hid T5; clear T5 hb5
      have B5 := Lib.hid (B4.out.trans (S5.out.mono (by omega)))
      have b5 : w.heap.size ≤ w5.heap.size := B5.out.size
      have X0_5 := Lib.hid (X0_4.out.below S5.out (by omega))
      go_wp2_with fail
      go_region_held3 (fun w' => w'.cell? ⟨w.heap.size, 0, none⟩ = some (.slice A1 ds.length c1) ∧ w'.cell? ⟨w.heap.size, 1, none⟩ = some (.slice A2 ss.length c2) ∧ w'.cell? ⟨w4.heap.size, 0, none⟩ = some (.slice (some ⟨g4, 0, none⟩) ds.length ds.length) ∧ w'.cell? ⟨w4.heap.size, 1, none⟩ = some (.slice (some ⟨g4x, 0, none⟩) ss.length ss.length)) (first | (go_keep; done) | (simp [*, go_sem]; done))
        (first
          | (go_at_call 11; refine (toGauge_any _ _ _ _ _ _ _ ((H1.out.below B5.out (Nat.le_refl _)).below (B := w5.heap.size) (by first | exact Below.refl _ _ | (go_grown; done)) (Nat.le_refl _)) ((H2.out.below B5.out (Nat.le_refl _)).below (B := w5.heap.size) (by first | exact Below.refl _ _ | (go_grown; done)) (Nat.le_refl _)) (by omega) (by omega)).mono ?_; rintro e w6 ⟨⟨g6, g6x, rfl, R6⟩, hb6⟩; obtain ⟨T6, z6, q6, s6, x6, y6⟩ := lkeep (w := w5) [w.heap.size, w4.heap.size] (by first | (simp; done) | (simp; omega)) (by first | exact Below.refl _ _ | (go_grown; done)) hb6; (try simp only [World.size_alloc, World.size_drew, size_set] at z6); have S6 := Lib.hid T6; clear T6 hb6; have B6 := Lib.hid (B5.out.trans (S6.out.mono (by omega))); have b6 : w.heap.size ≤ w6.heap.size := B6.out.size; have X0_6 := Lib.hid (X0_5.out.below S6.out (by omega)); have Y_6 := Lib.hid (R6.mono (show w5.heap.size ≤ _ by first | (simp; done) | (simp; omega)) (Nat.le_refl _)); clear R6)
          | (go_at_call 13; refine (eqGauge_same _ _ _ _ _ _ _ _ _ _ _ (X0_6.out.at.below (B := w6.heap.size) (by first | exact Below.refl _ _ | (go_grown; done)) (Nat.le_refl _)) (Y_6.out.at.below (B := w6.heap.size) (by first | exact Below.refl _ _ | (go_grown; done)) (Nat.le_refl _))).mono ?_; rintro e w7 ⟨rfl, hb7⟩; obtain ⟨T7, z7, q7, s7, x7, y7⟩ := lkeep (w := w6) [w.heap.size, w4.heap.size] (by first | (simp; done) | (simp; omega)) (by first | exact Below.refl _ _ | (go_grown; done)) hb7; (try simp only [World.size_alloc, World.size_drew, size_set] at z7); have S7 := Lib.hid T7; clear T7 hb7; have B7 := Lib.hid (B6.out.trans (S7.out.mono (by omega))); have b7 : w.heap.size ≤ w7.heap.size := B7.out.size; have X0_7 := Lib.hid (X0_6.out.below S7.out (by omega))))
      go_wp2_with fail
      go_ret
      exact ⟨rfl, B7.out⟩
    · skip
      go_enter Tryd.func3, Tryd.ntmps3
      go_wp2_with fail
      (refine (szGauge_any _ _ _ _ _ _ _ _ (by omega) (by omega) hn1 hn2).mono ?_; rintro e w1 ⟨rfl, hb1⟩; obtain ⟨B1, hz1, q1, s1, t1, x1, y1, z1⟩ := bkeep (w := w) [w.heap.size] (by first | (simp; done) | (simp; omega)) (by first | (go_grown; done) | exact bdrewN (by go_grown) _) hb1; (try simp at hz1); clear hb1)
      go_wp2
      go_ret
      exact ⟨rfl, B1⟩
  · skip
    go_enter Tryd.func3, Tryd.ntmps3
    go_wp2_with fail
    (refine (szGauge_any _ _ _ _ _ _ _ _ (by omega) (by omega) hn1 hn2).mono ?_; rintro e w1 ⟨rfl, hb1⟩; obtain ⟨B1, hz1, q1, s1, t1, x1, y1, z1⟩ := bkeep (w := w) [w.heap.size] (by first | (simp; done) | (simp; omega)) (by first | (go_grown; done) | exact bdrewN (by go_grown) _) hb1; (try simp at hz1); clear hb1)
    go_wp2
    go_ret
    exact ⟨rfl, B1⟩
end Go.Proofs.YtebdokpokbcgjaaDoor
