/- Texts in one: DrawCel, DrawR8, DrawDist, DrawCv, CellV, CeTop. -/
import Derived.Test.YtopggkomkfjbfaaDrawRay
import Derived.Test.YtopggkomkfjbfaaTraceRay
import Derived.Test.YtopggkomkfjbfaaVdc
import Derived.Test.YtopggkomkfjbfaaCellR
import Derived.Test.YtopggkomkfjbfaaTrB
import Derived.IntWalk
namespace Go.Proofs.Ytopggkomkfjbfaa
section
set_option linter.unusedSimpArgs false
set_option linter.unusedVariables false
open Go.RowKit

set_option maxRecDepth 100000 in
set_option maxHeartbeats 8000000 in
theorem l08DrawCell_any (S : Nat) (A : Option Addr) (c : Nat) (xs : List Int) (w : World) (h : SrcAt w S A c xs) :
    Calls Try.prog 113 #[.pointer (some ⟨S, 0, none⟩)] w fun e w' => (∃ a b g a' b' g', e = .returned (.tuple #[dirV a b g, dirV a' b' g'])) ∧ SrcAt w' S A c xs ∧ ChgB S (S + 1) w w' := by
  have ltS := h.lt
  have SS := Lib.hid h; have CC := Lib.hid (ChgB.refl S (S + 1) w); clear h
  have n_2 : w.heap.size ≠ S := by omega
  have n_6 : S ≠ w.heap.size := by omega
  have n_5 : w.heap.size + 1 ≠ S := by omega
  have n_7 : S ≠ w.heap.size + 1 := by omega
  go_enter Try.func113, Try.ntmps113
  go_wp2_with fail
  refine (l01Next_any S A c xs _ _ (SS.out.keepS (by repeat' (first | with_reducible exact Keep.refl _ _ _ | with_reducible refine Keep.setB ?_ ?_ _ | with_reducible refine Keep.alloc ?_ ?_ _ | with_reducible refine Keep.drew ?_ | omega | (simp; done) | (simp; omega))))).mono ?_; rintro e w2 ⟨⟨n2, rfl, n20, n21⟩, s2', ch2⟩; have CC := Lib.hid ((show ChgB S (S + 1) w _ from (by repeat' (first | with_reducible exact CC.out | with_reducible exact ChgB.refl _ _ _ | with_reducible refine ChgB.setB ?_ ?_ _ | with_reducible refine ChgB.alloc ?_ _ | with_reducible refine ChgB.drew ?_ | with_reducible refine ChgB.drewN ?_ _ | omega | (simp; done) | (simp; omega)))).trans ch2.toB); have SS := Lib.hid s2'; obtain ⟨z2, q2, f2, x2, y2⟩ := ckeepB [w.heap.size, w.heap.size + 1] (by first | (simp; done) | (simp; omega)) ch2.toB; (try simp only [World.size_alloc, World.size_drew, size_set] at z2); clear s2' ch2; have l2_0 := x2 (w.heap.size) (by simp); have l2_1 := x2 (w.heap.size + 1) (by simp)
  go_wp2_with fail
  refine (l01Next_any S A c xs _ _ (SS.out.keepS (by repeat' (first | with_reducible exact Keep.refl _ _ _ | with_reducible refine Keep.setB ?_ ?_ _ | with_reducible refine Keep.alloc ?_ ?_ _ | with_reducible refine Keep.drew ?_ | omega | (simp; done) | (simp; omega))))).mono ?_; rintro e w3 ⟨⟨n3, rfl, n30, n31⟩, s3', ch3⟩; have CC := Lib.hid ((show ChgB S (S + 1) w _ from (by repeat' (first | with_reducible exact CC.out | with_reducible exact ChgB.refl _ _ _ | with_reducible refine ChgB.setB ?_ ?_ _ | with_reducible refine ChgB.alloc ?_ _ | with_reducible refine ChgB.drew ?_ | with_reducible refine ChgB.drewN ?_ _ | omega | (simp; done) | (simp; omega)))).trans ch3.toB); have SS := Lib.hid s3'; obtain ⟨z3, q3, f3, x3, y3⟩ := ckeepB [w.heap.size, w.heap.size + 1] (by first | (simp; done) | (simp; omega)) ch3.toB; (try simp only [World.size_alloc, World.size_drew, size_set] at z3); clear s3' ch3; have l3_0 := x3 (w.heap.size) (by simp); have l3_1 := x3 (w.heap.size + 1) (by simp)
  go_wp2_with fail
  refine (l01Next_any S A c xs _ _ (SS.out.keepS (by repeat' (first | with_reducible exact Keep.refl _ _ _ | with_reducible refine Keep.setB ?_ ?_ _ | with_reducible refine Keep.alloc ?_ ?_ _ | with_reducible refine Keep.drew ?_ | omega | (simp; done) | (simp; omega))))).mono ?_; rintro e w4 ⟨⟨n4, rfl, n40, n41⟩, s4', ch4⟩; have CC := Lib.hid ((show ChgB S (S + 1) w _ from (by repeat' (first | with_reducible exact CC.out | with_reducible exact ChgB.refl _ _ _ | with_reducible refine ChgB.setB ?_ ?_ _ | with_reducible refine ChgB.alloc ?_ _ | with_reducible refine ChgB.drew ?_ | with_reducible refine ChgB.drewN ?_ _ | omega | (simp; done) | (simp; omega)))).trans ch4.toB); have SS := Lib.hid s4'; obtain ⟨z4, q4, f4, x4, y4⟩ := ckeepB [w.heap.size, w.heap.size + 1] (by first | (simp; done) | (simp; omega)) ch4.toB; (try simp only [World.size_alloc, World.size_drew, size_set] at z4); clear s4' ch4; have l4_0 := x4 (w.heap.size) (by simp); have l4_1 := x4 (w.heap.size + 1) (by simp)
  go_wp2_with fail
  refine (makeDirW_any _ _ _ _).mono ?_; rintro e w5 ⟨⟨pa, pb, pg, pk, rfl⟩, hb5⟩; have s5' := (SS.out.keepS (by repeat' (first | with_reducible exact Keep.refl _ _ _ | with_reducible refine Keep.setB ?_ ?_ _ | with_reducible refine Keep.alloc ?_ ?_ _ | with_reducible refine Keep.drew ?_ | omega | (simp; done) | (simp; omega)))).below hb5 (by first | omega | (simp; done) | (simp; omega)); have ch5 : ChgB S (S + 1) _ _ := ChgB.of_below hb5; clear hb5; have CC := Lib.hid ((show ChgB S (S + 1) w _ from (by repeat' (first | with_reducible exact CC.out | with_reducible exact ChgB.refl _ _ _ | with_reducible refine ChgB.setB ?_ ?_ _ | with_reducible refine ChgB.alloc ?_ _ | with_reducible refine ChgB.drew ?_ | with_reducible refine ChgB.drewN ?_ _ | omega | (simp; done) | (simp; omega)))).trans ch5); have SS := Lib.hid s5'; obtain ⟨z5, q5, f5, x5, y5⟩ := ckeepB [w.heap.size, w.heap.size + 1] (by first | (simp; done) | (simp; omega)) ch5; (try simp only [World.size_alloc, World.size_drew, size_set] at z5); clear s5' ch5; have l5_0 := x5 (w.heap.size) (by simp); have l5_1 := x5 (w.heap.size + 1) (by simp)
  obtain ⟨naa1, nab1, naa2, nab2⟩ : (w.heap.size = w5.heap.size) = False ∧ (w5.heap.size = w.heap.size) = False ∧ (w.heap.size + 1 = w5.heap.size) = False ∧ (w5.heap.size = w.heap.size + 1) = False := by
    refine ⟨?_, ?_, ?_, ?_⟩ <;> exact eq_false (by omega)
  have sA5_0 : S ≠ w5.heap.size := by omega
  have sB5_0 : w5.heap.size ≠ S := by omega
  have sC5_0 : S < w5.heap.size := by omega
  have sD5_0 : w.heap.size ≤ w5.heap.size := by omega
  go_upto_region 5 with fail
  refine genS (S := fun w' => w.heap.size < w'.heap.size ∧ w.heap.size + 1 < w'.heap.size ∧ w5.heap.size < w'.heap.size ∧ w'.cell? ⟨w.heap.size, 0, none⟩ = some (.int .i64 0) ∧ w'.cell? ⟨w.heap.size, 1, none⟩ = some (.int .i64 0) ∧ w'.cell? ⟨w.heap.size, 2, none⟩ = some (.int .i64 0) ∧ w'.cell? ⟨w.heap.size + 1, 0, none⟩ = some (.int .i64 0) ∧ w'.cell? ⟨w.heap.size + 1, 1, none⟩ = some (.int .i64 0) ∧ w'.cell? ⟨w.heap.size + 1, 2, none⟩ = some (.int .i64 0) ∧ w'.cell? ⟨w5.heap.size, 0, none⟩ = some (.int .i64 pa) ∧ w'.cell? ⟨w5.heap.size, 1, none⟩ = some (.int .i64 pb) ∧ w'.cell? ⟨w5.heap.size, 2, none⟩ = some (.int .i64 pg) ∧ (∀ o, w'.frozen? ⟨w.heap.size, o, none⟩ = false) ∧ (∀ o, w'.frozen? ⟨w.heap.size + 1, o, none⟩ = false) ∧ ChgB S (S + 1) w w' ∧ SrcAt w' S A c xs) ⟨by first | omega | (simp; done) | (simp; omega), by first | omega | (simp; done) | (simp; omega), by first | omega | (simp; done) | (simp; omega), by simp [*, go_sem], by simp [*, go_sem], by simp [*, go_sem], by simp [*, go_sem], by simp [*, go_sem], by simp [*, go_sem], by simp [*, go_sem], by simp [*, go_sem], by simp [*, go_sem], fun o => by simp [*, go_sem], fun o => by simp [*, go_sem], (by repeat' (first | with_reducible exact CC.out | with_reducible exact ChgB.refl _ _ _ | with_reducible refine ChgB.setB ?_ ?_ _ | with_reducible refine ChgB.alloc ?_ _ | with_reducible refine ChgB.drew ?_ | with_reducible refine ChgB.drewN ?_ _ | omega | (simp; done) | (simp; omega))), SS.out.keepS (by repeat' (first | with_reducible exact Keep.refl _ _ _ | with_reducible refine Keep.setB ?_ ?_ _ | with_reducible refine Keep.alloc ?_ ?_ _ | with_reducible refine Keep.drew ?_ | omega | (simp; done) | (simp; omega)))⟩ ?_
  clear z2 q2 f2 x2 y2 z3 q3 f3 x3 y3 z4 q4 f4 x4 y4 z5 q5 f5 x5 y5 l2_0 l2_1 l3_0 l3_1 l4_0 l4_1 l5_0 l5_1
  rintro w6 ⟨lt6_0, lt6_1, lt6_2, c6_0, c6_1, c6_2, c6_3, c6_4, c6_5, c6_6, c6_7, c6_8, fz6_0, fz6_1, cc, ss⟩
  have CC := Lib.hid cc; have SS := Lib.hid ss; clear cc ss
  go_wp2_with fail
  refine (l01Next_any S A c xs _ _ (SS.out.keepS (by repeat' (first | with_reducible exact Keep.refl _ _ _ | with_reducible refine Keep.setB ?_ ?_ _ | with_reducible refine Keep.alloc ?_ ?_ _ | with_reducible refine Keep.drew ?_ | omega | (simp; done) | (simp; omega))))).mono ?_; rintro e w7 ⟨⟨n7, rfl, n70, n71⟩, s7', ch7⟩; have CC := Lib.hid ((show ChgB S (S + 1) w _ from (by repeat' (first | with_reducible exact CC.out | with_reducible exact ChgB.refl _ _ _ | with_reducible refine ChgB.setB ?_ ?_ _ | with_reducible refine ChgB.alloc ?_ _ | with_reducible refine ChgB.drew ?_ | with_reducible refine ChgB.drewN ?_ _ | omega | (simp; done) | (simp; omega)))).trans ch7.toB); have SS := Lib.hid s7'; obtain ⟨z7, q7, f7, x7, y7⟩ := ckeepB [w.heap.size, w.heap.size + 1, w5.heap.size] (by first | (simp; done) | (simp; omega)) ch7.toB; (try simp only [World.size_alloc, World.size_drew, size_set] at z7); clear s7' ch7; have l7_0 := x7 (w.heap.size) (by simp); have l7_1 := x7 (w.heap.size + 1) (by simp); have l7_2 := x7 (w5.heap.size) (by simp)
  obtain ⟨mi, hmi⟩ : ∃ x, (if 1 + n3 + n7 < 4 + n2 - 1 then 1 + n3 + n7 else 4 + n2 - 1) = x := ⟨_, rfl⟩
  go_wp2_with fail
  refine (l01Next_any S A c xs _ _ (SS.out.keepS (by repeat' (first | with_reducible exact Keep.refl _ _ _ | with_reducible refine Keep.setB ?_ ?_ _ | with_reducible refine Keep.alloc ?_ ?_ _ | with_reducible refine Keep.drew ?_ | omega | (simp; done) | (simp; omega))))).mono ?_; rintro e w8 ⟨⟨n8, rfl, n80, n81⟩, s8', ch8⟩; have CC := Lib.hid ((show ChgB S (S + 1) w _ from (by repeat' (first | with_reducible exact CC.out | with_reducible exact ChgB.refl _ _ _ | with_reducible refine ChgB.setB ?_ ?_ _ | with_reducible refine ChgB.alloc ?_ _ | with_reducible refine ChgB.drew ?_ | with_reducible refine ChgB.drewN ?_ _ | omega | (simp; done) | (simp; omega)))).trans ch8.toB); have SS := Lib.hid s8'; obtain ⟨z8, q8, f8, x8, y8⟩ := ckeepB [w.heap.size, w.heap.size + 1, w5.heap.size] (by first | (simp; done) | (simp; omega)) ch8.toB; (try simp only [World.size_alloc, World.size_drew, size_set] at z8); clear s8' ch8; have l8_0 := x8 (w.heap.size) (by simp); have l8_1 := x8 (w.heap.size + 1) (by simp); have l8_2 := x8 (w5.heap.size) (by simp)
  go_wp2_with fail
  refine (makeDirW_any _ _ _ _).mono ?_; rintro e w9 ⟨⟨qa, qb, qg, qk, rfl⟩, hb9⟩; have s9' := (SS.out.keepS (by repeat' (first | with_reducible exact Keep.refl _ _ _ | with_reducible refine Keep.setB ?_ ?_ _ | with_reducible refine Keep.alloc ?_ ?_ _ | with_reducible refine Keep.drew ?_ | omega | (simp; done) | (simp; omega)))).below hb9 (by first | omega | (simp; done) | (simp; omega)); have ch9 : ChgB S (S + 1) _ _ := ChgB.of_below hb9; clear hb9; have CC := Lib.hid ((show ChgB S (S + 1) w _ from (by repeat' (first | with_reducible exact CC.out | with_reducible exact ChgB.refl _ _ _ | with_reducible refine ChgB.setB ?_ ?_ _ | with_reducible refine ChgB.alloc ?_ _ | with_reducible refine ChgB.drew ?_ | with_reducible refine ChgB.drewN ?_ _ | omega | (simp; done) | (simp; omega)))).trans ch9); have SS := Lib.hid s9'; obtain ⟨z9, q9, f9, x9, y9⟩ := ckeepB [w.heap.size, w.heap.size + 1, w5.heap.size] (by first | (simp; done) | (simp; omega)) ch9; (try simp only [World.size_alloc, World.size_drew, size_set] at z9); clear s9' ch9; have l9_0 := x9 (w.heap.size) (by simp); have l9_1 := x9 (w.heap.size + 1) (by simp); have l9_2 := x9 (w5.heap.size) (by simp)
  clear hmi
  have l95 : w5.heap.size < w9.heap.size := by omega
  obtain ⟨nba1, nbb1, nba2, nbb2, nba3, nbb3⟩ : (w.heap.size = w9.heap.size) = False ∧ (w9.heap.size = w.heap.size) = False ∧ (w.heap.size + 1 = w9.heap.size) = False ∧ (w9.heap.size = w.heap.size + 1) = False ∧ (w5.heap.size = w9.heap.size) = False ∧ (w9.heap.size = w5.heap.size) = False := by
    refine ⟨?_, ?_, ?_, ?_, ?_, ?_⟩ <;> exact eq_false (by omega)
  have sA9_0 : S ≠ w9.heap.size := by omega
  have sB9_0 : w9.heap.size ≠ S := by omega
  have sC9_0 : S < w9.heap.size := by omega
  have sD9_0 : w.heap.size ≤ w9.heap.size := by omega
  go_upto_region 6 with fail
  refine genS (S := fun w' => w.heap.size < w'.heap.size ∧ w.heap.size + 1 < w'.heap.size ∧ w5.heap.size < w'.heap.size ∧ w9.heap.size < w'.heap.size ∧ w'.cell? ⟨w.heap.size, 0, none⟩ = some (.int .i64 0) ∧ w'.cell? ⟨w.heap.size, 1, none⟩ = some (.int .i64 0) ∧ w'.cell? ⟨w.heap.size, 2, none⟩ = some (.int .i64 0) ∧ w'.cell? ⟨w.heap.size + 1, 0, none⟩ = some (.int .i64 0) ∧ w'.cell? ⟨w.heap.size + 1, 1, none⟩ = some (.int .i64 0) ∧ w'.cell? ⟨w.heap.size + 1, 2, none⟩ = some (.int .i64 0) ∧ w'.cell? ⟨w5.heap.size, 0, none⟩ = some (.int .i64 pa) ∧ w'.cell? ⟨w5.heap.size, 1, none⟩ = some (.int .i64 pb) ∧ w'.cell? ⟨w5.heap.size, 2, none⟩ = some (.int .i64 pg) ∧ w'.cell? ⟨w9.heap.size, 0, none⟩ = some (.int .i64 qa) ∧ w'.cell? ⟨w9.heap.size, 1, none⟩ = some (.int .i64 qb) ∧ w'.cell? ⟨w9.heap.size, 2, none⟩ = some (.int .i64 qg) ∧ (∀ o, w'.frozen? ⟨w.heap.size, o, none⟩ = false) ∧ (∀ o, w'.frozen? ⟨w.heap.size + 1, o, none⟩ = false) ∧ ChgB S (S + 1) w w' ∧ SrcAt w' S A c xs) ⟨by first | omega | (simp; done) | (simp; omega), by first | omega | (simp; done) | (simp; omega), by first | omega | (simp; done) | (simp; omega), by first | omega | (simp; done) | (simp; omega), by simp [*, go_sem], by simp [*, go_sem], by simp [*, go_sem], by simp [*, go_sem], by simp [*, go_sem], by simp [*, go_sem], by simp [*, go_sem], by simp [*, go_sem], by simp [*, go_sem], by simp [*, go_sem], by simp [*, go_sem], by simp [*, go_sem], fun o => by simp [*, go_sem], fun o => by simp [*, go_sem], (by repeat' (first | with_reducible exact CC.out | with_reducible exact ChgB.refl _ _ _ | with_reducible refine ChgB.setB ?_ ?_ _ | with_reducible refine ChgB.alloc ?_ _ | with_reducible refine ChgB.drew ?_ | with_reducible refine ChgB.drewN ?_ _ | omega | (simp; done) | (simp; omega))), SS.out.keepS (by repeat' (first | with_reducible exact Keep.refl _ _ _ | with_reducible refine Keep.setB ?_ ?_ _ | with_reducible refine Keep.alloc ?_ ?_ _ | with_reducible refine Keep.drew ?_ | omega | (simp; done) | (simp; omega)))⟩ ?_
  clear z7 q7 f7 x7 y7 z8 q8 f8 x8 y8 z9 q9 f9 x9 y9 l7_0 l7_1 l7_2 l8_0 l8_1 l8_2 l9_0 l9_1 l9_2 lt6_0 lt6_1 lt6_2 c6_0 c6_1 c6_2 c6_3 c6_4 c6_5 c6_6 c6_7 c6_8 fz6_0 fz6_1
  rintro w10 ⟨lt10_0, lt10_1, lt10_2, lt10_3, c10_0, c10_1, c10_2, c10_3, c10_4, c10_5, c10_6, c10_7, c10_8, c10_9, c10_10, c10_11, fz10_0, fz10_1, cc, ss⟩
  have CC := Lib.hid cc; have SS := Lib.hid ss; clear cc ss
  go_wp2_with fail
  refine (l01Next_any S A c xs _ _ (SS.out.keepS (by repeat' (first | with_reducible exact Keep.refl _ _ _ | with_reducible refine Keep.setB ?_ ?_ _ | with_reducible refine Keep.alloc ?_ ?_ _ | with_reducible refine Keep.drew ?_ | omega | (simp; done) | (simp; omega))))).mono ?_; rintro e w11 ⟨⟨n11, rfl, n110, n111⟩, s11', ch11⟩; have CC := Lib.hid ((show ChgB S (S + 1) w _ from (by repeat' (first | with_reducible exact CC.out | with_reducible exact ChgB.refl _ _ _ | with_reducible refine ChgB.setB ?_ ?_ _ | with_reducible refine ChgB.alloc ?_ _ | with_reducible refine ChgB.drew ?_ | with_reducible refine ChgB.drewN ?_ _ | omega | (simp; done) | (simp; omega)))).trans ch11.toB); have SS := Lib.hid s11'; obtain ⟨z11, q11, f11, x11, y11⟩ := ckeepB [w.heap.size, w.heap.size + 1, w5.heap.size, w9.heap.size] (by first | (simp; done) | (simp; omega)) ch11.toB; (try simp only [World.size_alloc, World.size_drew, size_set] at z11); clear s11' ch11; have l11_0 := x11 (w.heap.size) (by simp); have l11_1 := x11 (w.heap.size + 1) (by simp); have l11_2 := x11 (w5.heap.size) (by simp); have l11_3 := x11 (w9.heap.size) (by simp)
  by_cases hn : n11 = 0
  · subst hn
    go_upto_region 7 with fail
    refine genS (S := fun w' => w.heap.size < w'.heap.size ∧ w.heap.size + 1 < w'.heap.size ∧ w5.heap.size < w'.heap.size ∧ w9.heap.size < w'.heap.size ∧ w'.cell? ⟨w.heap.size, 0, none⟩ = some (.int .i64 0) ∧ w'.cell? ⟨w.heap.size, 1, none⟩ = some (.int .i64 0) ∧ w'.cell? ⟨w.heap.size, 2, none⟩ = some (.int .i64 0) ∧ w'.cell? ⟨w.heap.size + 1, 0, none⟩ = some (.int .i64 0) ∧ w'.cell? ⟨w.heap.size + 1, 1, none⟩ = some (.int .i64 0) ∧ w'.cell? ⟨w.heap.size + 1, 2, none⟩ = some (.int .i64 0) ∧ w'.cell? ⟨w5.heap.size, 0, none⟩ = some (.int .i64 pa) ∧ w'.cell? ⟨w5.heap.size, 1, none⟩ = some (.int .i64 pb) ∧ w'.cell? ⟨w5.heap.size, 2, none⟩ = some (.int .i64 pg) ∧ w'.cell? ⟨w9.heap.size, 0, none⟩ = some (.int .i64 qa) ∧ w'.cell? ⟨w9.heap.size, 1, none⟩ = some (.int .i64 qb) ∧ w'.cell? ⟨w9.heap.size, 2, none⟩ = some (.int .i64 qg) ∧ (∀ o, w'.frozen? ⟨w.heap.size, o, none⟩ = false) ∧ (∀ o, w'.frozen? ⟨w.heap.size + 1, o, none⟩ = false) ∧ ChgB S (S + 1) w w' ∧ SrcAt w' S A c xs) ⟨by first | omega | (simp; done) | (simp; omega), by first | omega | (simp; done) | (simp; omega), by first | omega | (simp; done) | (simp; omega), by first | omega | (simp; done) | (simp; omega), by simp [*, go_sem], by simp [*, go_sem], by simp [*, go_sem], by simp [*, go_sem], by simp [*, go_sem], by simp [*, go_sem], by simp [*, go_sem], by simp [*, go_sem], by simp [*, go_sem], by simp [*, go_sem], by simp [*, go_sem], by simp [*, go_sem], fun o => by simp [*, go_sem], fun o => by simp [*, go_sem], (by repeat' (first | with_reducible exact CC.out | with_reducible exact ChgB.refl _ _ _ | with_reducible refine ChgB.setB ?_ ?_ _ | with_reducible refine ChgB.alloc ?_ _ | with_reducible refine ChgB.drew ?_ | with_reducible refine ChgB.drewN ?_ _ | omega | (simp; done) | (simp; omega))), SS.out.keepS (by repeat' (first | with_reducible exact Keep.refl _ _ _ | with_reducible refine Keep.setB ?_ ?_ _ | with_reducible refine Keep.alloc ?_ ?_ _ | with_reducible refine Keep.drew ?_ | omega | (simp; done) | (simp; omega)))⟩ ?_
    clear z11 q11 f11 x11 y11 l11_0 l11_1 l11_2 l11_3 lt10_0 lt10_1 lt10_2 lt10_3 c10_0 c10_1 c10_2 c10_3 c10_4 c10_5 c10_6 c10_7 c10_8 c10_9 c10_10 c10_11 fz10_0 fz10_1
    rintro w12 ⟨lt12_0, lt12_1, lt12_2, lt12_3, c12_0, c12_1, c12_2, c12_3, c12_4, c12_5, c12_6, c12_7, c12_8, c12_9, c12_10, c12_11, fz12_0, fz12_1, cc, ss⟩
    have CC := Lib.hid cc; have SS := Lib.hid ss; clear cc ss
    go_region
    all_goals go_wp2
    all_goals refine bodyPost_ret (by simp [results, Try.results113, go_sem, *] <;> rfl) rfl ?_
    all_goals exact ⟨⟨_, _, _, _, _, _, rfl⟩, SS.out.keepS (by repeat' (first | with_reducible exact Keep.refl _ _ _ | with_reducible refine Keep.setB ?_ ?_ _ | with_reducible refine Keep.alloc ?_ ?_ _ | with_reducible refine Keep.drew ?_ | omega | (simp; done) | (simp; omega))), (by repeat' (first | with_reducible exact CC.out | with_reducible exact ChgB.refl _ _ _ | with_reducible refine ChgB.setB ?_ ?_ _ | with_reducible refine ChgB.alloc ?_ _ | with_reducible refine ChgB.drew ?_ | with_reducible refine ChgB.drewN ?_ _ | omega | (simp; done) | (simp; omega)))⟩
  · have hn2 : (n11 == 0) = false := beq_eq_false_iff_ne.2 hn
    go_upto_region 8 with fail
    refine genS (S := fun w' => w.heap.size < w'.heap.size ∧ w.heap.size + 1 < w'.heap.size ∧ w5.heap.size < w'.heap.size ∧ w9.heap.size < w'.heap.size ∧ w'.cell? ⟨w.heap.size, 0, none⟩ = some (.int .i64 0) ∧ w'.cell? ⟨w.heap.size, 1, none⟩ = some (.int .i64 0) ∧ w'.cell? ⟨w.heap.size, 2, none⟩ = some (.int .i64 0) ∧ w'.cell? ⟨w.heap.size + 1, 0, none⟩ = some (.int .i64 0) ∧ w'.cell? ⟨w.heap.size + 1, 1, none⟩ = some (.int .i64 0) ∧ w'.cell? ⟨w.heap.size + 1, 2, none⟩ = some (.int .i64 0) ∧ w'.cell? ⟨w5.heap.size, 0, none⟩ = some (.int .i64 pa) ∧ w'.cell? ⟨w5.heap.size, 1, none⟩ = some (.int .i64 pb) ∧ w'.cell? ⟨w5.heap.size, 2, none⟩ = some (.int .i64 pg) ∧ w'.cell? ⟨w9.heap.size, 0, none⟩ = some (.int .i64 qa) ∧ w'.cell? ⟨w9.heap.size, 1, none⟩ = some (.int .i64 qb) ∧ w'.cell? ⟨w9.heap.size, 2, none⟩ = some (.int .i64 qg) ∧ (∀ o, w'.frozen? ⟨w.heap.size, o, none⟩ = false) ∧ (∀ o, w'.frozen? ⟨w.heap.size + 1, o, none⟩ = false) ∧ ChgB S (S + 1) w w' ∧ SrcAt w' S A c xs) ⟨by first | omega | (simp; done) | (simp; omega), by first | omega | (simp; done) | (simp; omega), by first | omega | (simp; done) | (simp; omega), by first | omega | (simp; done) | (simp; omega), by simp [*, go_sem], by simp [*, go_sem], by simp [*, go_sem], by simp [*, go_sem], by simp [*, go_sem], by simp [*, go_sem], by simp [*, go_sem], by simp [*, go_sem], by simp [*, go_sem], by simp [*, go_sem], by simp [*, go_sem], by simp [*, go_sem], fun o => by simp [*, go_sem], fun o => by simp [*, go_sem], (by repeat' (first | with_reducible exact CC.out | with_reducible exact ChgB.refl _ _ _ | with_reducible refine ChgB.setB ?_ ?_ _ | with_reducible refine ChgB.alloc ?_ _ | with_reducible refine ChgB.drew ?_ | with_reducible refine ChgB.drewN ?_ _ | omega | (simp; done) | (simp; omega))), SS.out.keepS (by repeat' (first | with_reducible exact Keep.refl _ _ _ | with_reducible refine Keep.setB ?_ ?_ _ | with_reducible refine Keep.alloc ?_ ?_ _ | with_reducible refine Keep.drew ?_ | omega | (simp; done) | (simp; omega)))⟩ ?_
    clear z11 q11 f11 x11 y11 l11_0 l11_1 l11_2 l11_3 n110 n111 lt10_0 lt10_1 lt10_2 lt10_3 c10_0 c10_1 c10_2 c10_3 c10_4 c10_5 c10_6 c10_7 c10_8 c10_9 c10_10 c10_11 fz10_0 fz10_1
    rintro w12 ⟨lt12_0, lt12_1, lt12_2, lt12_3, c12_0, c12_1, c12_2, c12_3, c12_4, c12_5, c12_6, c12_7, c12_8, c12_9, c12_10, c12_11, fz12_0, fz12_1, cc, ss⟩
    have CC := Lib.hid cc; have SS := Lib.hid ss; clear cc ss
    go_region
    all_goals go_wp2
    all_goals refine bodyPost_ret (by simp [results, Try.results113, go_sem, *] <;> rfl) rfl ?_
    all_goals exact ⟨⟨_, _, _, _, _, _, rfl⟩, SS.out.keepS (by repeat' (first | with_reducible exact Keep.refl _ _ _ | with_reducible refine Keep.setB ?_ ?_ _ | with_reducible refine Keep.alloc ?_ ?_ _ | with_reducible refine Keep.drew ?_ | omega | (simp; done) | (simp; omega))), (by repeat' (first | with_reducible exact CC.out | with_reducible exact ChgB.refl _ _ _ | with_reducible refine ChgB.setB ?_ ?_ _ | with_reducible refine ChgB.alloc ?_ _ | with_reducible refine ChgB.drew ?_ | with_reducible refine ChgB.drewN ?_ _ | omega | (simp; done) | (simp; omega)))⟩
end

section
set_option linter.unusedSimpArgs false
set_option linter.unusedVariables false
open Go.RowKit

set_option maxRecDepth 100000 in
set_option maxHeartbeats 8000000 in
theorem l08DrawRay_any (S : Nat) (A : Option Addr) (c : Nat) (xs : List Int) (w : World) (h : SrcAt w S A c xs) :
    Calls Try.prog 72 #[.pointer (some ⟨S, 0, none⟩)] w fun e w' => (∃ A1 c1 A2 c2 ts ls k a b g a' b' g' z, e = .returned (.tuple #[profV A1 (List.length ts) c1 A2 (List.length ls) c2, .int .i64 k, dirV a b g, dirV a' b' g', .int .i64 z]) ∧ ResP w' w.heap.size w'.heap.size A1 c1 A2 c2 ts ls ∧ 2 ≤ ts.length ∧ ts.length ≤ 13) ∧ SrcAt w' S A c xs ∧ ChgB S (S + 1) w w' := by
  have ltS := h.lt
  have SS := Lib.hid h; have CC := Lib.hid (ChgB.refl S (S + 1) w); clear h
  have n_0 : w.heap.size ≠ S := by omega
  have m_0 : S ≠ w.heap.size := by omega
  have n_1 : w.heap.size + 1 ≠ S := by omega
  have m_1 : S ≠ w.heap.size + 1 := by omega
  have n_2 : w.heap.size + 1 + 1 ≠ S := by omega
  have m_2 : S ≠ w.heap.size + 1 + 1 := by omega
  go_enter Try.func72, Try.ntmps72
  go_upto_region 2 with (go_at_call 112; refine (l04DrawKnot_any S A c xs _ (SS.out.keepS (by repeat' (first | with_reducible exact Keep.refl _ _ _ | with_reducible refine Keep.setB ?_ ?_ _ | with_reducible refine Keep.alloc ?_ ?_ _ | with_reducible refine Keep.drew ?_ | omega | (simp; done) | (simp; omega))))).mono ?_; rintro e w2 ⟨⟨A1, c1, A2, c2, ts, ls, kk, rfl, rp, h1, h2⟩, s2', ch2⟩; have CC := Lib.hid ((show ChgB S (S + 1) w _ from (by repeat' (first | with_reducible exact CC.out | with_reducible exact ChgB.refl _ _ _ | with_reducible refine ChgB.setB ?_ ?_ _ | with_reducible refine ChgB.alloc ?_ _ | with_reducible refine ChgB.drew ?_ | with_reducible refine ChgB.drewN ?_ _ | omega | (simp; done) | (simp; omega)))).trans ch2); have SS := Lib.hid s2'; obtain ⟨z2, q2, f2, x2, y2⟩ := ckeepB [w.heap.size, w.heap.size + 1, w.heap.size + 1 + 1] (by first | (simp; done) | (simp; omega)) ch2; (try simp only [World.size_alloc, World.size_drew, size_set] at z2); clear s2' ch2; have l2_0 := x2 (w.heap.size) (by simp); have l2_1 := x2 (w.heap.size + 1) (by simp); have l2_2 := x2 (w.heap.size + 1 + 1) (by simp); have RP := Lib.hid rp; clear rp)
  obtain ⟨naa1, nab1, naa2, nab2, naa3, nab3⟩ : (w.heap.size = w2.heap.size) = False ∧ (w2.heap.size = w.heap.size) = False ∧ (w.heap.size + 1 = w2.heap.size) = False ∧ (w2.heap.size = w.heap.size + 1) = False ∧ (w.heap.size + 1 + 1 = w2.heap.size) = False ∧ (w2.heap.size = w.heap.size + 1 + 1) = False := by
    refine ⟨?_, ?_, ?_, ?_, ?_, ?_⟩ <;> exact eq_false (by omega)
  have sA2_0 : S ≠ w2.heap.size := by omega
  have sB2_0 : w2.heap.size ≠ S := by omega
  have sC2_0 : S < w2.heap.size := by omega
  have sD2_0 : w.heap.size ≤ w2.heap.size := by omega
  have RP : Hid (ResP _ (w.heap.size + 1 + 1 + 1) w2.heap.size A1 c1 A2 c2 ts ls) := Lib.hid (RP.out.mono (by first | (simp; done) | (simp; omega)) (Nat.le_refl _))
  refine genS (S := fun w' => w.heap.size < w'.heap.size ∧ w.heap.size + 1 < w'.heap.size ∧ w.heap.size + 1 + 1 < w'.heap.size ∧ w2.heap.size < w'.heap.size ∧ w'.cell? ⟨w.heap.size, 0, none⟩ = some (.slice none 0 0) ∧ w'.cell? ⟨w.heap.size, 1, none⟩ = some (.slice none 0 0) ∧ w'.cell? ⟨w.heap.size + 1, 0, none⟩ = some (.int .i64 0) ∧ w'.cell? ⟨w.heap.size + 1, 1, none⟩ = some (.int .i64 0) ∧ w'.cell? ⟨w.heap.size + 1, 2, none⟩ = some (.int .i64 0) ∧ w'.cell? ⟨w.heap.size + 1 + 1, 0, none⟩ = some (.int .i64 0) ∧ w'.cell? ⟨w.heap.size + 1 + 1, 1, none⟩ = some (.int .i64 0) ∧ w'.cell? ⟨w.heap.size + 1 + 1, 2, none⟩ = some (.int .i64 0) ∧ w'.cell? ⟨w2.heap.size, 0, none⟩ = some (.slice A1 (List.length ts) c1) ∧ w'.cell? ⟨w2.heap.size, 1, none⟩ = some (.slice A2 (List.length ls) c2) ∧ (∀ o, w'.frozen? ⟨w.heap.size, o, none⟩ = false) ∧ (∀ o, w'.frozen? ⟨w.heap.size + 1, o, none⟩ = false) ∧ (∀ o, w'.frozen? ⟨w.heap.size + 1 + 1, o, none⟩ = false) ∧ ChgB S (S + 1) w w' ∧ SrcAt w' S A c xs ∧ ResP w' (w.heap.size + 1 + 1 + 1) w2.heap.size A1 c1 A2 c2 ts ls) ⟨by first | omega | (simp; done) | (simp; omega), by first | omega | (simp; done) | (simp; omega), by first | omega | (simp; done) | (simp; omega), by first | omega | (simp; done) | (simp; omega), by simp [*, go_sem], by simp [*, go_sem], by simp [*, go_sem], by simp [*, go_sem], by simp [*, go_sem], by simp [*, go_sem], by simp [*, go_sem], by simp [*, go_sem], by simp [*, go_sem], by simp [*, go_sem], fun o => by simp [*, go_sem], fun o => by simp [*, go_sem], fun o => by simp [*, go_sem], (by repeat' (first | with_reducible exact CC.out | with_reducible exact ChgB.refl _ _ _ | with_reducible refine ChgB.setB ?_ ?_ _ | with_reducible refine ChgB.alloc ?_ _ | with_reducible refine ChgB.drew ?_ | with_reducible refine ChgB.drewN ?_ _ | omega | (simp; done) | (simp; omega))), SS.out.keepS (by repeat' (first | with_reducible exact Keep.refl _ _ _ | with_reducible refine Keep.setB ?_ ?_ _ | with_reducible refine Keep.alloc ?_ ?_ _ | with_reducible refine Keep.drew ?_ | omega | (simp; done) | (simp; omega))), RP.out.kept (by repeat' (first | with_reducible exact Keep.refl _ _ _ | with_reducible refine Keep.setB ?_ ?_ _ | with_reducible refine Keep.alloc ?_ ?_ _ | with_reducible refine Keep.drew ?_ | omega | (simp; done) | (simp; omega)))⟩ ?_
  clear z2 q2 f2 x2 y2 l2_0 l2_1 l2_2
  rintro w3 ⟨lt3_0, lt3_1, lt3_2, lt3_3, c3_0, c3_1, c3_2, c3_3, c3_4, c3_5, c3_6, c3_7, c3_8, c3_9, fz3_0, fz3_1, fz3_2, cc, ss, rr_RP⟩
  have CC := Lib.hid cc; have SS := Lib.hid ss; have RP := Lib.hid rr_RP; clear cc ss rr_RP
  go_wp2_with fail
  refine (l08DrawCell_any S A c xs _ (SS.out.keepS (by repeat' (first | with_reducible exact Keep.refl _ _ _ | with_reducible refine Keep.setB ?_ ?_ _ | with_reducible refine Keep.alloc ?_ ?_ _ | with_reducible refine Keep.drew ?_ | omega | (simp; done) | (simp; omega))))).mono ?_; rintro e w4 ⟨⟨da, db, dg, ea, eb, eg, rfl⟩, s4', ch4⟩; have CC := Lib.hid ((show ChgB S (S + 1) w _ from (by repeat' (first | with_reducible exact CC.out | with_reducible exact ChgB.refl _ _ _ | with_reducible refine ChgB.setB ?_ ?_ _ | with_reducible refine ChgB.alloc ?_ _ | with_reducible refine ChgB.drew ?_ | with_reducible refine ChgB.drewN ?_ _ | omega | (simp; done) | (simp; omega)))).trans ch4); have RP := Lib.hid (RP.out.keepB (by repeat' (first | with_reducible exact Keep.refl _ _ _ | with_reducible refine Keep.setB ?_ ?_ _ | with_reducible refine Keep.alloc ?_ ?_ _ | with_reducible refine Keep.drew ?_ | omega | (simp; done) | (simp; omega))) ch4 (by omega) (by first | omega | (simp; done) | (simp; omega))); have SS := Lib.hid s4'; obtain ⟨z4, q4, f4, x4, y4⟩ := ckeepB [w.heap.size, w.heap.size + 1, w.heap.size + 1 + 1, w2.heap.size] (by first | (simp; done) | (simp; omega)) ch4; (try simp only [World.size_alloc, World.size_drew, size_set] at z4); clear s4' ch4; have l4_0 := x4 (w.heap.size) (by simp); have l4_1 := x4 (w.heap.size + 1) (by simp); have l4_2 := x4 (w.heap.size + 1 + 1) (by simp); have l4_3 := x4 (w2.heap.size) (by simp)
  have l24 : w2.heap.size < w4.heap.size := by omega
  obtain ⟨nba1, nbb1, nba2, nbb2, nba3, nbb3, nba4, nbb4, nba5, nbb5, nba6, nbb6, nba7, nbb7, nba8, nbb8⟩ : (w.heap.size = w4.heap.size) = False ∧ (w4.heap.size = w.heap.size) = False ∧ (w.heap.size = w4.heap.size + 1) = False ∧ (w4.heap.size + 1 = w.heap.size) = False ∧ (w.heap.size + 1 = w4.heap.size) = False ∧ (w4.heap.size = w.heap.size + 1) = False ∧ (w.heap.size + 1 = w4.heap.size + 1) = False ∧ (w4.heap.size + 1 = w.heap.size + 1) = False ∧ (w.heap.size + 1 + 1 = w4.heap.size) = False ∧ (w4.heap.size = w.heap.size + 1 + 1) = False ∧ (w.heap.size + 1 + 1 = w4.heap.size + 1) = False ∧ (w4.heap.size + 1 = w.heap.size + 1 + 1) = False ∧ (w2.heap.size = w4.heap.size) = False ∧ (w4.heap.size = w2.heap.size) = False ∧ (w2.heap.size = w4.heap.size + 1) = False ∧ (w4.heap.size + 1 = w2.heap.size) = False := by
    refine ⟨?_, ?_, ?_, ?_, ?_, ?_, ?_, ?_, ?_, ?_, ?_, ?_, ?_, ?_, ?_, ?_⟩ <;> exact eq_false (by omega)
  have sA4_0 : S ≠ w4.heap.size := by omega
  have sB4_0 : w4.heap.size ≠ S := by omega
  have sC4_0 : S < w4.heap.size := by omega
  have sD4_0 : w.heap.size ≤ w4.heap.size := by omega
  have sA4_1 : S ≠ w4.heap.size + 1 := by omega
  have sB4_1 : w4.heap.size + 1 ≠ S := by omega
  have sC4_1 : S < w4.heap.size + 1 := by omega
  have sD4_1 : w.heap.size ≤ w4.heap.size + 1 := by omega
  go_upto_region 3 with fail
  refine genS (S := fun w' => w.heap.size < w'.heap.size ∧ w.heap.size + 1 < w'.heap.size ∧ w.heap.size + 1 + 1 < w'.heap.size ∧ w2.heap.size < w'.heap.size ∧ w4.heap.size < w'.heap.size ∧ w4.heap.size + 1 < w'.heap.size ∧ w'.cell? ⟨w.heap.size, 0, none⟩ = some (.slice none 0 0) ∧ w'.cell? ⟨w.heap.size, 1, none⟩ = some (.slice none 0 0) ∧ w'.cell? ⟨w.heap.size + 1, 0, none⟩ = some (.int .i64 0) ∧ w'.cell? ⟨w.heap.size + 1, 1, none⟩ = some (.int .i64 0) ∧ w'.cell? ⟨w.heap.size + 1, 2, none⟩ = some (.int .i64 0) ∧ w'.cell? ⟨w.heap.size + 1 + 1, 0, none⟩ = some (.int .i64 0) ∧ w'.cell? ⟨w.heap.size + 1 + 1, 1, none⟩ = some (.int .i64 0) ∧ w'.cell? ⟨w.heap.size + 1 + 1, 2, none⟩ = some (.int .i64 0) ∧ w'.cell? ⟨w2.heap.size, 0, none⟩ = some (.slice A1 (List.length ts) c1) ∧ w'.cell? ⟨w2.heap.size, 1, none⟩ = some (.slice A2 (List.length ls) c2) ∧ w'.cell? ⟨w4.heap.size, 0, none⟩ = some (.int .i64 da) ∧ w'.cell? ⟨w4.heap.size, 1, none⟩ = some (.int .i64 db) ∧ w'.cell? ⟨w4.heap.size, 2, none⟩ = some (.int .i64 dg) ∧ w'.cell? ⟨w4.heap.size + 1, 0, none⟩ = some (.int .i64 ea) ∧ w'.cell? ⟨w4.heap.size + 1, 1, none⟩ = some (.int .i64 eb) ∧ w'.cell? ⟨w4.heap.size + 1, 2, none⟩ = some (.int .i64 eg) ∧ (∀ o, w'.frozen? ⟨w.heap.size, o, none⟩ = false) ∧ (∀ o, w'.frozen? ⟨w.heap.size + 1, o, none⟩ = false) ∧ (∀ o, w'.frozen? ⟨w.heap.size + 1 + 1, o, none⟩ = false) ∧ (∀ o, w'.frozen? ⟨w4.heap.size, o, none⟩ = false) ∧ ChgB S (S + 1) w w' ∧ SrcAt w' S A c xs ∧ ResP w' (w.heap.size + 1 + 1 + 1) w2.heap.size A1 c1 A2 c2 ts ls) ⟨by first | omega | (simp; done) | (simp; omega), by first | omega | (simp; done) | (simp; omega), by first | omega | (simp; done) | (simp; omega), by first | omega | (simp; done) | (simp; omega), by first | omega | (simp; done) | (simp; omega), by first | omega | (simp; done) | (simp; omega), by simp [*, go_sem], by simp [*, go_sem], by simp [*, go_sem], by simp [*, go_sem], by simp [*, go_sem], by simp [*, go_sem], by simp [*, go_sem], by simp [*, go_sem], by simp [*, go_sem], by simp [*, go_sem], by simp [*, go_sem], by simp [*, go_sem], by simp [*, go_sem], by simp [*, go_sem], by simp [*, go_sem], by simp [*, go_sem], fun o => by simp [*, go_sem], fun o => by simp [*, go_sem], fun o => by simp [*, go_sem], fun o => by simp [*, go_sem], (by repeat' (first | with_reducible exact CC.out | with_reducible exact ChgB.refl _ _ _ | with_reducible refine ChgB.setB ?_ ?_ _ | with_reducible refine ChgB.alloc ?_ _ | with_reducible refine ChgB.drew ?_ | with_reducible refine ChgB.drewN ?_ _ | omega | (simp; done) | (simp; omega))), SS.out.keepS (by repeat' (first | with_reducible exact Keep.refl _ _ _ | with_reducible refine Keep.setB ?_ ?_ _ | with_reducible refine Keep.alloc ?_ ?_ _ | with_reducible refine Keep.drew ?_ | omega | (simp; done) | (simp; omega))), RP.out.kept (by repeat' (first | with_reducible exact Keep.refl _ _ _ | with_reducible refine Keep.setB ?_ ?_ _ | with_reducible refine Keep.alloc ?_ ?_ _ | with_reducible refine Keep.drew ?_ | omega | (simp; done) | (simp; omega)))⟩ ?_
  clear z4 q4 f4 x4 y4 l4_0 l4_1 l4_2 l4_3 lt3_0 lt3_1 lt3_2 lt3_3 c3_0 c3_1 c3_2 c3_3 c3_4 c3_5 c3_6 c3_7 c3_8 c3_9 fz3_0 fz3_1 fz3_2
  rintro w5 ⟨lt5_0, lt5_1, lt5_2, lt5_3, lt5_4, lt5_5, c5_0, c5_1, c5_2, c5_3, c5_4, c5_5, c5_6, c5_7, c5_8, c5_9, c5_10, c5_11, c5_12, c5_13, c5_14, c5_15, fz5_0, fz5_1, fz5_2, fz5_3, cc, ss, rr_RP⟩
  have CC := Lib.hid cc; have SS := Lib.hid ss; have RP := Lib.hid rr_RP; clear cc ss rr_RP
  go_wp2_with fail
  refine (l01Next_any S A c xs _ _ (SS.out.keepS (by repeat' (first | with_reducible exact Keep.refl _ _ _ | with_reducible refine Keep.setB ?_ ?_ _ | with_reducible refine Keep.alloc ?_ ?_ _ | with_reducible refine Keep.drew ?_ | omega | (simp; done) | (simp; omega))))).mono ?_; rintro e w6 ⟨⟨n6, rfl, n60, n61⟩, s6', ch6⟩; have CC := Lib.hid ((show ChgB S (S + 1) w _ from (by repeat' (first | with_reducible exact CC.out | with_reducible exact ChgB.refl _ _ _ | with_reducible refine ChgB.setB ?_ ?_ _ | with_reducible refine ChgB.alloc ?_ _ | with_reducible refine ChgB.drew ?_ | with_reducible refine ChgB.drewN ?_ _ | omega | (simp; done) | (simp; omega)))).trans ch6.toB); have RP := Lib.hid (RP.out.keepB (by repeat' (first | with_reducible exact Keep.refl _ _ _ | with_reducible refine Keep.setB ?_ ?_ _ | with_reducible refine Keep.alloc ?_ ?_ _ | with_reducible refine Keep.drew ?_ | omega | (simp; done) | (simp; omega))) ch6.toB (by omega) (by first | omega | (simp; done) | (simp; omega))); have SS := Lib.hid s6'; obtain ⟨z6, q6, f6, x6, y6⟩ := ckeepB [w.heap.size, w.heap.size + 1, w.heap.size + 1 + 1, w2.heap.size, w4.heap.size, w4.heap.size + 1] (by first | (simp; done) | (simp; omega)) ch6.toB; (try simp only [World.size_alloc, World.size_drew, size_set] at z6); clear s6' ch6; have l6_0 := x6 (w.heap.size) (by simp); have l6_1 := x6 (w.heap.size + 1) (by simp); have l6_2 := x6 (w.heap.size + 1 + 1) (by simp); have l6_3 := x6 (w2.heap.size) (by simp); have l6_4 := x6 (w4.heap.size) (by simp); have l6_5 := x6 (w4.heap.size + 1) (by simp)
  go_wp2_with fail
  refine (l01Next_any S A c xs _ _ (SS.out.keepS (by repeat' (first | with_reducible exact Keep.refl _ _ _ | with_reducible refine Keep.setB ?_ ?_ _ | with_reducible refine Keep.alloc ?_ ?_ _ | with_reducible refine Keep.drew ?_ | omega | (simp; done) | (simp; omega))))).mono ?_; rintro e w7 ⟨⟨n7, rfl, n70, n71⟩, s7', ch7⟩; have CC := Lib.hid ((show ChgB S (S + 1) w _ from (by repeat' (first | with_reducible exact CC.out | with_reducible exact ChgB.refl _ _ _ | with_reducible refine ChgB.setB ?_ ?_ _ | with_reducible refine ChgB.alloc ?_ _ | with_reducible refine ChgB.drew ?_ | with_reducible refine ChgB.drewN ?_ _ | omega | (simp; done) | (simp; omega)))).trans ch7.toB); have RP := Lib.hid (RP.out.keepB (by repeat' (first | with_reducible exact Keep.refl _ _ _ | with_reducible refine Keep.setB ?_ ?_ _ | with_reducible refine Keep.alloc ?_ ?_ _ | with_reducible refine Keep.drew ?_ | omega | (simp; done) | (simp; omega))) ch7.toB (by omega) (by first | omega | (simp; done) | (simp; omega))); have SS := Lib.hid s7'; obtain ⟨z7, q7, f7, x7, y7⟩ := ckeepB [w.heap.size, w.heap.size + 1, w.heap.size + 1 + 1, w2.heap.size, w4.heap.size, w4.heap.size + 1] (by first | (simp; done) | (simp; omega)) ch7.toB; (try simp only [World.size_alloc, World.size_drew, size_set] at z7); clear s7' ch7; have l7_0 := x7 (w.heap.size) (by simp); have l7_1 := x7 (w.heap.size + 1) (by simp); have l7_2 := x7 (w.heap.size + 1 + 1) (by simp); have l7_3 := x7 (w2.heap.size) (by simp); have l7_4 := x7 (w4.heap.size) (by simp); have l7_5 := x7 (w4.heap.size + 1) (by simp)
  by_cases hn : n7 = 0
  · subst hn
    go_wp2_with fail
    refine (l01Pick_any S A c xs _ 0 _ [-1, 100, 101] _ (SS.out.keepS (by repeat' (first | with_reducible exact Keep.refl _ _ _ | with_reducible refine Keep.setB ?_ ?_ _ | with_reducible refine Keep.alloc ?_ ?_ _ | with_reducible refine Keep.drew ?_ | omega | (simp; done) | (simp; omega)))) ⟨by simp, by simp, .inr ⟨_, 0, rfl, by first | omega | (simp; done) | (simp; omega), fun i x hx => by rcases i with _ | _ | _ | _ | i <;> simp at hx <;> subst hx <;> simp [*, go_sem]⟩⟩ (by simp) (by first | omega | (simp; omega))).mono ?_; rintro e w8 ⟨⟨n8, rfl, nm8⟩, s8', ch8⟩; have CC := Lib.hid ((show ChgB S (S + 1) w _ from (by repeat' (first | with_reducible exact CC.out | with_reducible exact ChgB.refl _ _ _ | with_reducible refine ChgB.setB ?_ ?_ _ | with_reducible refine ChgB.alloc ?_ _ | with_reducible refine ChgB.drew ?_ | with_reducible refine ChgB.drewN ?_ _ | omega | (simp; done) | (simp; omega)))).trans ch8.toB); have RP := Lib.hid (RP.out.keepB (by repeat' (first | with_reducible exact Keep.refl _ _ _ | with_reducible refine Keep.setB ?_ ?_ _ | with_reducible refine Keep.alloc ?_ ?_ _ | with_reducible refine Keep.drew ?_ | omega | (simp; done) | (simp; omega))) ch8.toB (by omega) (by first | omega | (simp; done) | (simp; omega))); have SS := Lib.hid s8'; obtain ⟨z8, q8, f8, x8, y8⟩ := ckeepB [w.heap.size, w.heap.size + 1, w.heap.size + 1 + 1, w2.heap.size, w4.heap.size, w4.heap.size + 1] (by first | (simp; done) | (simp; omega)) ch8.toB; (try simp only [World.size_alloc, World.size_drew, size_set] at z8); clear s8' ch8; have l8_0 := x8 (w.heap.size) (by simp); have l8_1 := x8 (w.heap.size + 1) (by simp); have l8_2 := x8 (w.heap.size + 1 + 1) (by simp); have l8_3 := x8 (w2.heap.size) (by simp); have l8_4 := x8 (w4.heap.size) (by simp); have l8_5 := x8 (w4.heap.size + 1) (by simp); clear nm8
    go_upto_region 9 with fail
    refine genS (S := fun w' => w.heap.size < w'.heap.size ∧ w.heap.size + 1 < w'.heap.size ∧ w.heap.size + 1 + 1 < w'.heap.size ∧ w2.heap.size < w'.heap.size ∧ w4.heap.size < w'.heap.size ∧ w4.heap.size + 1 < w'.heap.size ∧ w'.cell? ⟨w.heap.size, 0, none⟩ = some (.slice none 0 0) ∧ w'.cell? ⟨w.heap.size, 1, none⟩ = some (.slice none 0 0) ∧ w'.cell? ⟨w.heap.size + 1, 0, none⟩ = some (.int .i64 0) ∧ w'.cell? ⟨w.heap.size + 1, 1, none⟩ = some (.int .i64 0) ∧ w'.cell? ⟨w.heap.size + 1, 2, none⟩ = some (.int .i64 0) ∧ w'.cell? ⟨w.heap.size + 1 + 1, 0, none⟩ = some (.int .i64 0) ∧ w'.cell? ⟨w.heap.size + 1 + 1, 1, none⟩ = some (.int .i64 0) ∧ w'.cell? ⟨w.heap.size + 1 + 1, 2, none⟩ = some (.int .i64 0) ∧ w'.cell? ⟨w2.heap.size, 0, none⟩ = some (.slice A1 (List.length ts) c1) ∧ w'.cell? ⟨w2.heap.size, 1, none⟩ = some (.slice A2 (List.length ls) c2) ∧ w'.cell? ⟨w4.heap.size, 0, none⟩ = some (.int .i64 da) ∧ w'.cell? ⟨w4.heap.size, 1, none⟩ = some (.int .i64 db) ∧ w'.cell? ⟨w4.heap.size, 2, none⟩ = some (.int .i64 dg) ∧ w'.cell? ⟨w4.heap.size + 1, 0, none⟩ = some (.int .i64 ea) ∧ w'.cell? ⟨w4.heap.size + 1, 1, none⟩ = some (.int .i64 eb) ∧ w'.cell? ⟨w4.heap.size + 1, 2, none⟩ = some (.int .i64 eg) ∧ (∀ o, w'.frozen? ⟨w.heap.size, o, none⟩ = false) ∧ (∀ o, w'.frozen? ⟨w.heap.size + 1, o, none⟩ = false) ∧ (∀ o, w'.frozen? ⟨w.heap.size + 1 + 1, o, none⟩ = false) ∧ ChgB S (S + 1) w w' ∧ SrcAt w' S A c xs ∧ ResP w' (w.heap.size + 1 + 1 + 1) w2.heap.size A1 c1 A2 c2 ts ls) ⟨by first | omega | (simp; done) | (simp; omega), by first | omega | (simp; done) | (simp; omega), by first | omega | (simp; done) | (simp; omega), by first | omega | (simp; done) | (simp; omega), by first | omega | (simp; done) | (simp; omega), by first | omega | (simp; done) | (simp; omega), by simp [*, go_sem], by simp [*, go_sem], by simp [*, go_sem], by simp [*, go_sem], by simp [*, go_sem], by simp [*, go_sem], by simp [*, go_sem], by simp [*, go_sem], by simp [*, go_sem], by simp [*, go_sem], by simp [*, go_sem], by simp [*, go_sem], by simp [*, go_sem], by simp [*, go_sem], by simp [*, go_sem], by simp [*, go_sem], fun o => by simp [*, go_sem], fun o => by simp [*, go_sem], fun o => by simp [*, go_sem], (by repeat' (first | with_reducible exact CC.out | with_reducible exact ChgB.refl _ _ _ | with_reducible refine ChgB.setB ?_ ?_ _ | with_reducible refine ChgB.alloc ?_ _ | with_reducible refine ChgB.drew ?_ | with_reducible refine ChgB.drewN ?_ _ | omega | (simp; done) | (simp; omega))), SS.out.keepS (by repeat' (first | with_reducible exact Keep.refl _ _ _ | with_reducible refine Keep.setB ?_ ?_ _ | with_reducible refine Keep.alloc ?_ ?_ _ | with_reducible refine Keep.drew ?_ | omega | (simp; done) | (simp; omega))), RP.out.kept (by repeat' (first | with_reducible exact Keep.refl _ _ _ | with_reducible refine Keep.setB ?_ ?_ _ | with_reducible refine Keep.alloc ?_ ?_ _ | with_reducible refine Keep.drew ?_ | omega | (simp; done) | (simp; omega)))⟩ ?_
    clear z6 q6 f6 x6 y6 z7 q7 f7 x7 y7 z8 q8 f8 x8 y8 l6_0 l6_1 l6_2 l6_3 l6_4 l6_5 l7_0 l7_1 l7_2 l7_3 l7_4 l7_5 l8_0 l8_1 l8_2 l8_3 l8_4 l8_5 n60 n61 lt5_0 lt5_1 lt5_2 lt5_3 lt5_4 lt5_5 c5_0 c5_1 c5_2 c5_3 c5_4 c5_5 c5_6 c5_7 c5_8 c5_9 c5_10 c5_11 c5_12 c5_13 c5_14 c5_15 fz5_0 fz5_1 fz5_2 fz5_3
    rintro w12 ⟨lt12_0, lt12_1, lt12_2, lt12_3, lt12_4, lt12_5, c12_0, c12_1, c12_2, c12_3, c12_4, c12_5, c12_6, c12_7, c12_8, c12_9, c12_10, c12_11, c12_12, c12_13, c12_14, c12_15, fz12_0, fz12_1, fz12_2, cc, ss, rr_RP⟩
    have CC := Lib.hid cc; have SS := Lib.hid ss; have RP := Lib.hid rr_RP; clear cc ss rr_RP
    go_region
    all_goals go_wp2
    all_goals refine bodyPost_ret (by simp [results, Try.results72, go_sem, *] <;> rfl) rfl ?_
    all_goals exact ⟨⟨_, _, _, _, ts, ls, _, _, _, _, _, _, _, _, rfl, ResP.mono (RP.out.kept (by repeat' (first | with_reducible exact Keep.refl _ _ _ | with_reducible refine Keep.setB ?_ ?_ _ | with_reducible refine Keep.alloc ?_ ?_ _ | with_reducible refine Keep.drew ?_ | omega | (simp; done) | (simp; omega)))) (by first | omega | (simp; done) | (simp; omega)) (by first | omega | (simp; done) | (simp; omega)), h1, h2⟩, SS.out.keepS (by repeat' (first | with_reducible exact Keep.refl _ _ _ | with_reducible refine Keep.setB ?_ ?_ _ | with_reducible refine Keep.alloc ?_ ?_ _ | with_reducible refine Keep.drew ?_ | omega | (simp; done) | (simp; omega))), (by repeat' (first | with_reducible exact CC.out | with_reducible exact ChgB.refl _ _ _ | with_reducible refine ChgB.setB ?_ ?_ _ | with_reducible refine ChgB.alloc ?_ _ | with_reducible refine ChgB.drew ?_ | with_reducible refine ChgB.drewN ?_ _ | omega | (simp; done) | (simp; omega)))⟩
  · have hn2 : (n7 == 0) = false := beq_eq_false_iff_ne.2 hn
    by_cases hm : n7 = 1
    · subst hm
      go_wp2_with fail
      refine (l05Draw_any S A c xs _ (SS.out.keepS (by repeat' (first | with_reducible exact Keep.refl _ _ _ | with_reducible refine Keep.setB ?_ ?_ _ | with_reducible refine Keep.alloc ?_ ?_ _ | with_reducible refine Keep.drew ?_ | omega | (simp; done) | (simp; omega))))).mono ?_; rintro e w9 ⟨⟨fa, fb, fg, rfl⟩, s9', ch9⟩; have CC := Lib.hid ((show ChgB S (S + 1) w _ from (by repeat' (first | with_reducible exact CC.out | with_reducible exact ChgB.refl _ _ _ | with_reducible refine ChgB.setB ?_ ?_ _ | with_reducible refine ChgB.alloc ?_ _ | with_reducible refine ChgB.drew ?_ | with_reducible refine ChgB.drewN ?_ _ | omega | (simp; done) | (simp; omega)))).trans ch9); have RP := Lib.hid (RP.out.keepB (by repeat' (first | with_reducible exact Keep.refl _ _ _ | with_reducible refine Keep.setB ?_ ?_ _ | with_reducible refine Keep.alloc ?_ ?_ _ | with_reducible refine Keep.drew ?_ | omega | (simp; done) | (simp; omega))) ch9 (by omega) (by first | omega | (simp; done) | (simp; omega))); have SS := Lib.hid s9'; obtain ⟨z9, q9, f9, x9, y9⟩ := ckeepB [w.heap.size, w.heap.size + 1, w.heap.size + 1 + 1, w2.heap.size, w4.heap.size, w4.heap.size + 1] (by first | (simp; done) | (simp; omega)) ch9; (try simp only [World.size_alloc, World.size_drew, size_set] at z9); clear s9' ch9; have l9_0 := x9 (w.heap.size) (by simp); have l9_1 := x9 (w.heap.size + 1) (by simp); have l9_2 := x9 (w.heap.size + 1 + 1) (by simp); have l9_3 := x9 (w2.heap.size) (by simp); have l9_4 := x9 (w4.heap.size) (by simp); have l9_5 := x9 (w4.heap.size + 1) (by simp)
      go_upto_region 9 with fail
      refine genS (S := fun w' => w.heap.size < w'.heap.size ∧ w.heap.size + 1 < w'.heap.size ∧ w.heap.size + 1 + 1 < w'.heap.size ∧ w2.heap.size < w'.heap.size ∧ w4.heap.size < w'.heap.size ∧ w4.heap.size + 1 < w'.heap.size ∧ w'.cell? ⟨w.heap.size, 0, none⟩ = some (.slice none 0 0) ∧ w'.cell? ⟨w.heap.size, 1, none⟩ = some (.slice none 0 0) ∧ w'.cell? ⟨w.heap.size + 1, 0, none⟩ = some (.int .i64 0) ∧ w'.cell? ⟨w.heap.size + 1, 1, none⟩ = some (.int .i64 0) ∧ w'.cell? ⟨w.heap.size + 1, 2, none⟩ = some (.int .i64 0) ∧ w'.cell? ⟨w.heap.size + 1 + 1, 0, none⟩ = some (.int .i64 0) ∧ w'.cell? ⟨w.heap.size + 1 + 1, 1, none⟩ = some (.int .i64 0) ∧ w'.cell? ⟨w.heap.size + 1 + 1, 2, none⟩ = some (.int .i64 0) ∧ w'.cell? ⟨w2.heap.size, 0, none⟩ = some (.slice A1 (List.length ts) c1) ∧ w'.cell? ⟨w2.heap.size, 1, none⟩ = some (.slice A2 (List.length ls) c2) ∧ w'.cell? ⟨w4.heap.size, 0, none⟩ = some (.int .i64 fa) ∧ w'.cell? ⟨w4.heap.size, 1, none⟩ = some (.int .i64 fb) ∧ w'.cell? ⟨w4.heap.size, 2, none⟩ = some (.int .i64 fg) ∧ w'.cell? ⟨w4.heap.size + 1, 0, none⟩ = some (.int .i64 ea) ∧ w'.cell? ⟨w4.heap.size + 1, 1, none⟩ = some (.int .i64 eb) ∧ w'.cell? ⟨w4.heap.size + 1, 2, none⟩ = some (.int .i64 eg) ∧ (∀ o, w'.frozen? ⟨w.heap.size, o, none⟩ = false) ∧ (∀ o, w'.frozen? ⟨w.heap.size + 1, o, none⟩ = false) ∧ (∀ o, w'.frozen? ⟨w.heap.size + 1 + 1, o, none⟩ = false) ∧ ChgB S (S + 1) w w' ∧ SrcAt w' S A c xs ∧ ResP w' (w.heap.size + 1 + 1 + 1) w2.heap.size A1 c1 A2 c2 ts ls) ⟨by first | omega | (simp; done) | (simp; omega), by first | omega | (simp; done) | (simp; omega), by first | omega | (simp; done) | (simp; omega), by first | omega | (simp; done) | (simp; omega), by first | omega | (simp; done) | (simp; omega), by first | omega | (simp; done) | (simp; omega), by simp [*, go_sem], by simp [*, go_sem], by simp [*, go_sem], by simp [*, go_sem], by simp [*, go_sem], by simp [*, go_sem], by simp [*, go_sem], by simp [*, go_sem], by simp [*, go_sem], by simp [*, go_sem], by simp [*, go_sem], by simp [*, go_sem], by simp [*, go_sem], by simp [*, go_sem], by simp [*, go_sem], by simp [*, go_sem], fun o => by simp [*, go_sem], fun o => by simp [*, go_sem], fun o => by simp [*, go_sem], (by repeat' (first | with_reducible exact CC.out | with_reducible exact ChgB.refl _ _ _ | with_reducible refine ChgB.setB ?_ ?_ _ | with_reducible refine ChgB.alloc ?_ _ | with_reducible refine ChgB.drew ?_ | with_reducible refine ChgB.drewN ?_ _ | omega | (simp; done) | (simp; omega))), SS.out.keepS (by repeat' (first | with_reducible exact Keep.refl _ _ _ | with_reducible refine Keep.setB ?_ ?_ _ | with_reducible refine Keep.alloc ?_ ?_ _ | with_reducible refine Keep.drew ?_ | omega | (simp; done) | (simp; omega))), RP.out.kept (by repeat' (first | with_reducible exact Keep.refl _ _ _ | with_reducible refine Keep.setB ?_ ?_ _ | with_reducible refine Keep.alloc ?_ ?_ _ | with_reducible refine Keep.drew ?_ | omega | (simp; done) | (simp; omega)))⟩ ?_
      clear z6 q6 f6 x6 y6 z7 q7 f7 x7 y7 z9 q9 f9 x9 y9 l6_0 l6_1 l6_2 l6_3 l6_4 l6_5 l7_0 l7_1 l7_2 l7_3 l7_4 l7_5 l9_0 l9_1 l9_2 l9_3 l9_4 l9_5 n60 n61 lt5_0 lt5_1 lt5_2 lt5_3 lt5_4 lt5_5 c5_0 c5_1 c5_2 c5_3 c5_4 c5_5 c5_6 c5_7 c5_8 c5_9 c5_10 c5_11 c5_12 c5_13 c5_14 c5_15 fz5_0 fz5_1 fz5_2 fz5_3
      rintro w12 ⟨lt12_0, lt12_1, lt12_2, lt12_3, lt12_4, lt12_5, c12_0, c12_1, c12_2, c12_3, c12_4, c12_5, c12_6, c12_7, c12_8, c12_9, c12_10, c12_11, c12_12, c12_13, c12_14, c12_15, fz12_0, fz12_1, fz12_2, cc, ss, rr_RP⟩
      have CC := Lib.hid cc; have SS := Lib.hid ss; have RP := Lib.hid rr_RP; clear cc ss rr_RP
      go_region
      all_goals go_wp2
      all_goals refine bodyPost_ret (by simp [results, Try.results72, go_sem, *] <;> rfl) rfl ?_
      all_goals exact ⟨⟨_, _, _, _, ts, ls, _, _, _, _, _, _, _, _, rfl, ResP.mono (RP.out.kept (by repeat' (first | with_reducible exact Keep.refl _ _ _ | with_reducible refine Keep.setB ?_ ?_ _ | with_reducible refine Keep.alloc ?_ ?_ _ | with_reducible refine Keep.drew ?_ | omega | (simp; done) | (simp; omega)))) (by first | omega | (simp; done) | (simp; omega)) (by first | omega | (simp; done) | (simp; omega)), h1, h2⟩, SS.out.keepS (by repeat' (first | with_reducible exact Keep.refl _ _ _ | with_reducible refine Keep.setB ?_ ?_ _ | with_reducible refine Keep.alloc ?_ ?_ _ | with_reducible refine Keep.drew ?_ | omega | (simp; done) | (simp; omega))), (by repeat' (first | with_reducible exact CC.out | with_reducible exact ChgB.refl _ _ _ | with_reducible refine ChgB.setB ?_ ?_ _ | with_reducible refine ChgB.alloc ?_ _ | with_reducible refine ChgB.drew ?_ | with_reducible refine ChgB.drewN ?_ _ | omega | (simp; done) | (simp; omega)))⟩
    · have hn3 : (n7 == 1) = false := beq_eq_false_iff_ne.2 hm
      go_upto_region 9 with fail
      refine genS (S := fun w' => w.heap.size < w'.heap.size ∧ w.heap.size + 1 < w'.heap.size ∧ w.heap.size + 1 + 1 < w'.heap.size ∧ w2.heap.size < w'.heap.size ∧ w4.heap.size < w'.heap.size ∧ w4.heap.size + 1 < w'.heap.size ∧ w'.cell? ⟨w.heap.size, 0, none⟩ = some (.slice none 0 0) ∧ w'.cell? ⟨w.heap.size, 1, none⟩ = some (.slice none 0 0) ∧ w'.cell? ⟨w.heap.size + 1, 0, none⟩ = some (.int .i64 0) ∧ w'.cell? ⟨w.heap.size + 1, 1, none⟩ = some (.int .i64 0) ∧ w'.cell? ⟨w.heap.size + 1, 2, none⟩ = some (.int .i64 0) ∧ w'.cell? ⟨w.heap.size + 1 + 1, 0, none⟩ = some (.int .i64 0) ∧ w'.cell? ⟨w.heap.size + 1 + 1, 1, none⟩ = some (.int .i64 0) ∧ w'.cell? ⟨w.heap.size + 1 + 1, 2, none⟩ = some (.int .i64 0) ∧ w'.cell? ⟨w2.heap.size, 0, none⟩ = some (.slice A1 (List.length ts) c1) ∧ w'.cell? ⟨w2.heap.size, 1, none⟩ = some (.slice A2 (List.length ls) c2) ∧ w'.cell? ⟨w4.heap.size, 0, none⟩ = some (.int .i64 da) ∧ w'.cell? ⟨w4.heap.size, 1, none⟩ = some (.int .i64 db) ∧ w'.cell? ⟨w4.heap.size, 2, none⟩ = some (.int .i64 dg) ∧ w'.cell? ⟨w4.heap.size + 1, 0, none⟩ = some (.int .i64 ea) ∧ w'.cell? ⟨w4.heap.size + 1, 1, none⟩ = some (.int .i64 eb) ∧ w'.cell? ⟨w4.heap.size + 1, 2, none⟩ = some (.int .i64 eg) ∧ (∀ o, w'.frozen? ⟨w.heap.size, o, none⟩ = false) ∧ (∀ o, w'.frozen? ⟨w.heap.size + 1, o, none⟩ = false) ∧ (∀ o, w'.frozen? ⟨w.heap.size + 1 + 1, o, none⟩ = false) ∧ ChgB S (S + 1) w w' ∧ SrcAt w' S A c xs ∧ ResP w' (w.heap.size + 1 + 1 + 1) w2.heap.size A1 c1 A2 c2 ts ls) ⟨by first | omega | (simp; done) | (simp; omega), by first | omega | (simp; done) | (simp; omega), by first | omega | (simp; done) | (simp; omega), by first | omega | (simp; done) | (simp; omega), by first | omega | (simp; done) | (simp; omega), by first | omega | (simp; done) | (simp; omega), by simp [*, go_sem], by simp [*, go_sem], by simp [*, go_sem], by simp [*, go_sem], by simp [*, go_sem], by simp [*, go_sem], by simp [*, go_sem], by simp [*, go_sem], by simp [*, go_sem], by simp [*, go_sem], by simp [*, go_sem], by simp [*, go_sem], by simp [*, go_sem], by simp [*, go_sem], by simp [*, go_sem], by simp [*, go_sem], fun o => by simp [*, go_sem], fun o => by simp [*, go_sem], fun o => by simp [*, go_sem], (by repeat' (first | with_reducible exact CC.out | with_reducible exact ChgB.refl _ _ _ | with_reducible refine ChgB.setB ?_ ?_ _ | with_reducible refine ChgB.alloc ?_ _ | with_reducible refine ChgB.drew ?_ | with_reducible refine ChgB.drewN ?_ _ | omega | (simp; done) | (simp; omega))), SS.out.keepS (by repeat' (first | with_reducible exact Keep.refl _ _ _ | with_reducible refine Keep.setB ?_ ?_ _ | with_reducible refine Keep.alloc ?_ ?_ _ | with_reducible refine Keep.drew ?_ | omega | (simp; done) | (simp; omega))), RP.out.kept (by repeat' (first | with_reducible exact Keep.refl _ _ _ | with_reducible refine Keep.setB ?_ ?_ _ | with_reducible refine Keep.alloc ?_ ?_ _ | with_reducible refine Keep.drew ?_ | omega | (simp; done) | (simp; omega)))⟩ ?_
      clear z6 q6 f6 x6 y6 z7 q7 f7 x7 y7 l6_0 l6_1 l6_2 l6_3 l6_4 l6_5 l7_0 l7_1 l7_2 l7_3 l7_4 l7_5 n60 n61 n70 n71 lt5_0 lt5_1 lt5_2 lt5_3 lt5_4 lt5_5 c5_0 c5_1 c5_2 c5_3 c5_4 c5_5 c5_6 c5_7 c5_8 c5_9 c5_10 c5_11 c5_12 c5_13 c5_14 c5_15 fz5_0 fz5_1 fz5_2 fz5_3
      rintro w12 ⟨lt12_0, lt12_1, lt12_2, lt12_3, lt12_4, lt12_5, c12_0, c12_1, c12_2, c12_3, c12_4, c12_5, c12_6, c12_7, c12_8, c12_9, c12_10, c12_11, c12_12, c12_13, c12_14, c12_15, fz12_0, fz12_1, fz12_2, cc, ss, rr_RP⟩
      have CC := Lib.hid cc; have SS := Lib.hid ss; have RP := Lib.hid rr_RP; clear cc ss rr_RP
      go_region
      all_goals go_wp2
      all_goals refine bodyPost_ret (by simp [results, Try.results72, go_sem, *] <;> rfl) rfl ?_
      all_goals exact ⟨⟨_, _, _, _, ts, ls, _, _, _, _, _, _, _, _, rfl, ResP.mono (RP.out.kept (by repeat' (first | with_reducible exact Keep.refl _ _ _ | with_reducible refine Keep.setB ?_ ?_ _ | with_reducible refine Keep.alloc ?_ ?_ _ | with_reducible refine Keep.drew ?_ | omega | (simp; done) | (simp; omega)))) (by first | omega | (simp; done) | (simp; omega)) (by first | omega | (simp; done) | (simp; omega)), h1, h2⟩, SS.out.keepS (by repeat' (first | with_reducible exact Keep.refl _ _ _ | with_reducible refine Keep.setB ?_ ?_ _ | with_reducible refine Keep.alloc ?_ ?_ _ | with_reducible refine Keep.drew ?_ | omega | (simp; done) | (simp; omega))), (by repeat' (first | with_reducible exact CC.out | with_reducible exact ChgB.refl _ _ _ | with_reducible refine ChgB.setB ?_ ?_ _ | with_reducible refine ChgB.alloc ?_ _ | with_reducible refine ChgB.drew ?_ | with_reducible refine ChgB.drewN ?_ _ | omega | (simp; done) | (simp; omega)))⟩
end

section
set_option linter.unusedSimpArgs false
set_option linter.unusedVariables false
open Go.RowKit

set_option maxRecDepth 100000 in
set_option maxHeartbeats 8000000 in
theorem l08DrawDistance_any (S : Nat) (A : Option Addr) (c : Nat) (xs : List Int) (A1 A2 : Option Addr) (c1 c2 : Nat) (ts ls : List Int) (src co si hy n : Int) (w : World) (h : SrcAt w S A c xs) (hp : ProfAt w A1 c1 A2 c2 ts ls) :
    Calls Try.prog 73 #[.pointer (some ⟨S, 0, none⟩), profV A1 (List.length ts) c1 A2 (List.length ls) c2, .int .i64 src, dirV co si hy, .int .i64 n] w fun e w' => (∃ k z, e = .returned (.tuple #[.int .i64 k, .int .i64 z])) ∧ SrcAt w' S A c xs ∧ ChgB S (S + 1) w w' := by
  have ltS := h.lt
  have hn63 := Nat.le_trans hp.1.1 hp.1.2.1
  have SS := Lib.hid h; have CC := Lib.hid (ChgB.refl S (S + 1) w); have HP := Lib.hid hp; clear h hp
  have TR := fun w h => specTraceRay_any A1 A2 c1 c2 ts ls src co si hy n w h
  obtain ⟨⟨xk, xd, xl, xh⟩, hX⟩ : ∃ x : Rs, trX ts ls src co si hy n = x := ⟨_, rfl⟩
  obtain ⟨E, hE⟩ : ∃ x, trCo ts ls src co si hy n = x := ⟨_, rfl⟩
  rw [hX, hE] at TR
  dsimp only at TR
  have TR := Lib.hid TR
  clear hX hE
  have n_0 : w.heap.size ≠ S := by omega
  have m_0 : S ≠ w.heap.size := by omega
  have n_1 : w.heap.size + 1 ≠ S := by omega
  have m_1 : S ≠ w.heap.size + 1 := by omega
  go_enter Try.func73, Try.ntmps73
  go_wp2_with fail
  refine (TR.out _ (HP.out.below (B := w.heap.size) (by first | exact Below.refl _ _ | (go_grown; done)) (Nat.le_refl _))).mono ?_; rintro e w2 ⟨⟨At, ct, rfl, -⟩, hb2⟩; have s2' := (SS.out.keepS (by repeat' (first | with_reducible exact Keep.refl _ _ _ | with_reducible refine Keep.setB ?_ ?_ _ | with_reducible refine Keep.alloc ?_ ?_ _ | with_reducible refine Keep.drew ?_ | omega | (simp; done) | (simp; omega)))).below hb2 (by first | omega | (simp; done) | (simp; omega)); have ch2 : ChgB S (S + 1) _ _ := ChgB.of_below hb2; clear hb2; have CC := Lib.hid ((show ChgB S (S + 1) w _ from (by repeat' (first | with_reducible exact CC.out | with_reducible exact ChgB.refl _ _ _ | with_reducible refine ChgB.setB ?_ ?_ _ | with_reducible refine ChgB.alloc ?_ _ | with_reducible refine ChgB.drew ?_ | with_reducible refine ChgB.drewN ?_ _ | omega | (simp; done) | (simp; omega)))).trans ch2); have SS := Lib.hid s2'; obtain ⟨z2, q2, f2, x2, y2⟩ := ckeepB [w.heap.size, w.heap.size + 1] (by first | (simp; done) | (simp; omega)) ch2; (try simp only [World.size_alloc, World.size_drew, size_set] at z2); clear s2' ch2; have l2_0 := x2 (w.heap.size) (by simp); have l2_1 := x2 (w.heap.size + 1) (by simp)
  obtain ⟨naa1, nab1, naa2, nab2⟩ : (w.heap.size = w2.heap.size) = False ∧ (w2.heap.size = w.heap.size) = False ∧ (w.heap.size + 1 = w2.heap.size) = False ∧ (w2.heap.size = w.heap.size + 1) = False := by
    refine ⟨?_, ?_, ?_, ?_⟩ <;> exact eq_false (by omega)
  have sA2_0 : S ≠ w2.heap.size := by omega
  have sB2_0 : w2.heap.size ≠ S := by omega
  have sC2_0 : S < w2.heap.size := by omega
  have sD2_0 : w.heap.size ≤ w2.heap.size := by omega
  go_upto_region 3 with fail
  refine genS (S := fun w' => w.heap.size < w'.heap.size ∧ w.heap.size + 1 < w'.heap.size ∧ w2.heap.size < w'.heap.size ∧ w'.cell? ⟨w2.heap.size, 0, none⟩ = some (.int .i64 xk) ∧ w'.cell? ⟨w2.heap.size, 1, none⟩ = some (.bool xd) ∧ w'.cell? ⟨w2.heap.size, 2, none⟩ = some (.int .i64 xl) ∧ w'.cell? ⟨w2.heap.size, 3, none⟩ = some (.int .i64 xh) ∧ ChgB S (S + 1) w w' ∧ SrcAt w' S A c xs) ⟨by first | omega | (simp; done) | (simp; omega), by first | omega | (simp; done) | (simp; omega), by first | omega | (simp; done) | (simp; omega), by simp [*, go_sem], by simp [*, go_sem], by simp [*, go_sem], by simp [*, go_sem], (by repeat' (first | with_reducible exact CC.out | with_reducible exact ChgB.refl _ _ _ | with_reducible refine ChgB.setB ?_ ?_ _ | with_reducible refine ChgB.alloc ?_ _ | with_reducible refine ChgB.drew ?_ | with_reducible refine ChgB.drewN ?_ _ | omega | (simp; done) | (simp; omega))), SS.out.keepS (by repeat' (first | with_reducible exact Keep.refl _ _ _ | with_reducible refine Keep.setB ?_ ?_ _ | with_reducible refine Keep.alloc ?_ ?_ _ | with_reducible refine Keep.drew ?_ | omega | (simp; done) | (simp; omega)))⟩ ?_
  clear z2 q2 f2 x2 y2 l2_0 l2_1
  rintro w3 ⟨lt3_0, lt3_1, lt3_2, c3_0, c3_1, c3_2, c3_3, cc, ss⟩
  have CC := Lib.hid cc; have SS := Lib.hid ss; clear cc ss
  by_cases hE : E = 0
  · subst hE
    go_wp2_with fail
    refine (l01Next_any S A c xs _ _ (SS.out.keepS (by repeat' (first | with_reducible exact Keep.refl _ _ _ | with_reducible refine Keep.setB ?_ ?_ _ | with_reducible refine Keep.alloc ?_ ?_ _ | with_reducible refine Keep.drew ?_ | omega | (simp; done) | (simp; omega))))).mono ?_; rintro e w4 ⟨⟨n4, rfl, n40, n41⟩, s4', ch4⟩; have CC := Lib.hid ((show ChgB S (S + 1) w _ from (by repeat' (first | with_reducible exact CC.out | with_reducible exact ChgB.refl _ _ _ | with_reducible refine ChgB.setB ?_ ?_ _ | with_reducible refine ChgB.alloc ?_ _ | with_reducible refine ChgB.drew ?_ | with_reducible refine ChgB.drewN ?_ _ | omega | (simp; done) | (simp; omega)))).trans ch4.toB); have SS := Lib.hid s4'; obtain ⟨z4, q4, f4, x4, y4⟩ := ckeepB [w.heap.size, w.heap.size + 1, w2.heap.size] (by first | (simp; done) | (simp; omega)) ch4.toB; (try simp only [World.size_alloc, World.size_drew, size_set] at z4); clear s4' ch4; have l4_0 := x4 (w.heap.size) (by simp); have l4_1 := x4 (w.heap.size + 1) (by simp); have l4_2 := x4 (w2.heap.size) (by simp)
    by_cases hg : (0 : Int) < n4
    · go_upto_region 4 with fail
      go_region_held3 (fun w' => w'.cell? ⟨w2.heap.size, 0, none⟩ = some (.int .i64 xk) ∧ w'.cell? ⟨w2.heap.size, 1, none⟩ = some (.bool xd) ∧ w'.cell? ⟨w2.heap.size, 2, none⟩ = some (.int .i64 xl) ∧ w'.cell? ⟨w2.heap.size, 3, none⟩ = some (.int .i64 xh)) (first | (go_keep; done) | (simp [*, go_sem]; done))
        (first
          | (go_at_call 110; refine (l01Next_any S A c xs _ _ (SS.out.keepS (by repeat' (first | with_reducible exact Keep.refl _ _ _ | with_reducible refine Keep.setB ?_ ?_ _ | with_reducible refine Keep.alloc ?_ ?_ _ | with_reducible refine Keep.drew ?_ | omega | (simp; done) | (simp; omega))))).mono ?_; rintro e w5 ⟨⟨n5, rfl, n50, n51⟩, s5', ch5⟩; have CC := Lib.hid ((show ChgB S (S + 1) w _ from (by repeat' (first | with_reducible exact CC.out | with_reducible exact ChgB.refl _ _ _ | with_reducible refine ChgB.setB ?_ ?_ _ | with_reducible refine ChgB.alloc ?_ _ | with_reducible refine ChgB.drew ?_ | with_reducible refine ChgB.drewN ?_ _ | omega | (simp; done) | (simp; omega)))).trans ch5.toB); have SS := Lib.hid s5'; obtain ⟨z5, q5, f5, x5, y5⟩ := ckeepB [w.heap.size, w.heap.size + 1, w2.heap.size] (by first | (simp; done) | (simp; omega)) ch5.toB; (try simp only [World.size_alloc, World.size_drew, size_set] at z5); clear s5' ch5; have l5_0 := x5 (w.heap.size) (by simp); have l5_1 := x5 (w.heap.size + 1) (by simp); have l5_2 := x5 (w2.heap.size) (by simp)))
      all_goals go_wp2
      all_goals refine bodyPost_ret (by simp [results, Try.results73, go_sem, *] <;> rfl) rfl ?_
      all_goals exact ⟨⟨_, _, rfl⟩, SS.out.keepS (by repeat' (first | with_reducible exact Keep.refl _ _ _ | with_reducible refine Keep.setB ?_ ?_ _ | with_reducible refine Keep.alloc ?_ ?_ _ | with_reducible refine Keep.drew ?_ | omega | (simp; done) | (simp; omega))), (by repeat' (first | with_reducible exact CC.out | with_reducible exact ChgB.refl _ _ _ | with_reducible refine ChgB.setB ?_ ?_ _ | with_reducible refine ChgB.alloc ?_ _ | with_reducible refine ChgB.drew ?_ | with_reducible refine ChgB.drewN ?_ _ | omega | (simp; done) | (simp; omega)))⟩
    · skip
      go_wp2_with fail
      refine (l01Next_any S A c xs _ _ (SS.out.keepS (by repeat' (first | with_reducible exact Keep.refl _ _ _ | with_reducible refine Keep.setB ?_ ?_ _ | with_reducible refine Keep.alloc ?_ ?_ _ | with_reducible refine Keep.drew ?_ | omega | (simp; done) | (simp; omega))))).mono ?_; rintro e w5 ⟨⟨n5, rfl, n50, n51⟩, s5', ch5⟩; have CC := Lib.hid ((show ChgB S (S + 1) w _ from (by repeat' (first | with_reducible exact CC.out | with_reducible exact ChgB.refl _ _ _ | with_reducible refine ChgB.setB ?_ ?_ _ | with_reducible refine ChgB.alloc ?_ _ | with_reducible refine ChgB.drew ?_ | with_reducible refine ChgB.drewN ?_ _ | omega | (simp; done) | (simp; omega)))).trans ch5.toB); have SS := Lib.hid s5'; obtain ⟨z5, q5, f5, x5, y5⟩ := ckeepB [w.heap.size, w.heap.size + 1, w2.heap.size] (by first | (simp; done) | (simp; omega)) ch5.toB; (try simp only [World.size_alloc, World.size_drew, size_set] at z5); clear s5' ch5; have l5_0 := x5 (w.heap.size) (by simp); have l5_1 := x5 (w.heap.size + 1) (by simp); have l5_2 := x5 (w2.heap.size) (by simp)
      by_cases hq : n5 = 0
      · subst hq
        go_wp2_with fail
        refine (l01Pick_any S A c xs _ 0 _ [-1, (ts.length : Int), 0] _ (SS.out.keepS (by repeat' (first | with_reducible exact Keep.refl _ _ _ | with_reducible refine Keep.setB ?_ ?_ _ | with_reducible refine Keep.alloc ?_ ?_ _ | with_reducible refine Keep.drew ?_ | omega | (simp; done) | (simp; omega)))) ⟨by simp, by simp, .inr ⟨_, 0, rfl, by first | omega | (simp; done) | (simp; omega), fun i x hx => by rcases i with _ | _ | _ | _ | i <;> simp at hx <;> subst hx <;> simp [*, go_sem]⟩⟩ (by simp) (by first | omega | (simp; omega))).mono ?_; rintro e w6 ⟨⟨n6, rfl, nm6⟩, s6', ch6⟩; have CC := Lib.hid ((show ChgB S (S + 1) w _ from (by repeat' (first | with_reducible exact CC.out | with_reducible exact ChgB.refl _ _ _ | with_reducible refine ChgB.setB ?_ ?_ _ | with_reducible refine ChgB.alloc ?_ _ | with_reducible refine ChgB.drew ?_ | with_reducible refine ChgB.drewN ?_ _ | omega | (simp; done) | (simp; omega)))).trans ch6.toB); have SS := Lib.hid s6'; obtain ⟨z6, q6, f6, x6, y6⟩ := ckeepB [w.heap.size, w.heap.size + 1, w2.heap.size] (by first | (simp; done) | (simp; omega)) ch6.toB; (try simp only [World.size_alloc, World.size_drew, size_set] at z6); clear s6' ch6; have l6_0 := x6 (w.heap.size) (by simp); have l6_1 := x6 (w.heap.size + 1) (by simp); have l6_2 := x6 (w2.heap.size) (by simp); clear nm6
        go_wp2_with fail
        refine (l01Pick_any S A c xs _ 0 _ [-1, 0, 1000000000000, 1000000000001] _ (SS.out.keepS (by repeat' (first | with_reducible exact Keep.refl _ _ _ | with_reducible refine Keep.setB ?_ ?_ _ | with_reducible refine Keep.alloc ?_ ?_ _ | with_reducible refine Keep.drew ?_ | omega | (simp; done) | (simp; omega)))) ⟨by simp, by simp, .inr ⟨_, 0, rfl, by first | omega | (simp; done) | (simp; omega), fun i x hx => by rcases i with _ | _ | _ | _ | i <;> simp at hx <;> subst hx <;> simp [*, go_sem]⟩⟩ (by simp) (by first | omega | (simp; omega))).mono ?_; rintro e w7 ⟨⟨n7, rfl, nm7⟩, s7', ch7⟩; have CC := Lib.hid ((show ChgB S (S + 1) w _ from (by repeat' (first | with_reducible exact CC.out | with_reducible exact ChgB.refl _ _ _ | with_reducible refine ChgB.setB ?_ ?_ _ | with_reducible refine ChgB.alloc ?_ _ | with_reducible refine ChgB.drew ?_ | with_reducible refine ChgB.drewN ?_ _ | omega | (simp; done) | (simp; omega)))).trans ch7.toB); have SS := Lib.hid s7'; obtain ⟨z7, q7, f7, x7, y7⟩ := ckeepB [w.heap.size, w.heap.size + 1, w2.heap.size] (by first | (simp; done) | (simp; omega)) ch7.toB; (try simp only [World.size_alloc, World.size_drew, size_set] at z7); clear s7' ch7; have l7_0 := x7 (w.heap.size) (by simp); have l7_1 := x7 (w.heap.size + 1) (by simp); have l7_2 := x7 (w2.heap.size) (by simp); clear nm7
        go_wp2
        all_goals refine bodyPost_ret (by simp [results, Try.results73, go_sem, *] <;> rfl) rfl ?_
        all_goals exact ⟨⟨_, _, rfl⟩, SS.out.keepS (by repeat' (first | with_reducible exact Keep.refl _ _ _ | with_reducible refine Keep.setB ?_ ?_ _ | with_reducible refine Keep.alloc ?_ ?_ _ | with_reducible refine Keep.drew ?_ | omega | (simp; done) | (simp; omega))), (by repeat' (first | with_reducible exact CC.out | with_reducible exact ChgB.refl _ _ _ | with_reducible refine ChgB.setB ?_ ?_ _ | with_reducible refine ChgB.alloc ?_ _ | with_reducible refine ChgB.drew ?_ | with_reducible refine ChgB.drewN ?_ _ | omega | (simp; done) | (simp; omega)))⟩
      · have hq2 : (n5 == 0) = false := beq_eq_false_iff_ne.2 hq
        go_wp2_with fail
        refine (l01Next_any S A c xs _ _ (SS.out.keepS (by repeat' (first | with_reducible exact Keep.refl _ _ _ | with_reducible refine Keep.setB ?_ ?_ _ | with_reducible refine Keep.alloc ?_ ?_ _ | with_reducible refine Keep.drew ?_ | omega | (simp; done) | (simp; omega))))).mono ?_; rintro e w6 ⟨⟨n6, rfl, n60, n61⟩, s6', ch6⟩; have CC := Lib.hid ((show ChgB S (S + 1) w _ from (by repeat' (first | with_reducible exact CC.out | with_reducible exact ChgB.refl _ _ _ | with_reducible refine ChgB.setB ?_ ?_ _ | with_reducible refine ChgB.alloc ?_ _ | with_reducible refine ChgB.drew ?_ | with_reducible refine ChgB.drewN ?_ _ | omega | (simp; done) | (simp; omega)))).trans ch6.toB); have SS := Lib.hid s6'; obtain ⟨z6, q6, f6, x6, y6⟩ := ckeepB [w.heap.size, w.heap.size + 1, w2.heap.size] (by first | (simp; done) | (simp; omega)) ch6.toB; (try simp only [World.size_alloc, World.size_drew, size_set] at z6); clear s6' ch6; have l6_0 := x6 (w.heap.size) (by simp); have l6_1 := x6 (w.heap.size + 1) (by simp); have l6_2 := x6 (w2.heap.size) (by simp)
        go_wp2_with fail
        refine (l01Next_any S A c xs _ _ (SS.out.keepS (by repeat' (first | with_reducible exact Keep.refl _ _ _ | with_reducible refine Keep.setB ?_ ?_ _ | with_reducible refine Keep.alloc ?_ ?_ _ | with_reducible refine Keep.drew ?_ | omega | (simp; done) | (simp; omega))))).mono ?_; rintro e w7 ⟨⟨n7, rfl, n70, n71⟩, s7', ch7⟩; have CC := Lib.hid ((show ChgB S (S + 1) w _ from (by repeat' (first | with_reducible exact CC.out | with_reducible exact ChgB.refl _ _ _ | with_reducible refine ChgB.setB ?_ ?_ _ | with_reducible refine ChgB.alloc ?_ _ | with_reducible refine ChgB.drew ?_ | with_reducible refine ChgB.drewN ?_ _ | omega | (simp; done) | (simp; omega)))).trans ch7.toB); have SS := Lib.hid s7'; obtain ⟨z7, q7, f7, x7, y7⟩ := ckeepB [w.heap.size, w.heap.size + 1, w2.heap.size] (by first | (simp; done) | (simp; omega)) ch7.toB; (try simp only [World.size_alloc, World.size_drew, size_set] at z7); clear s7' ch7; have l7_0 := x7 (w.heap.size) (by simp); have l7_1 := x7 (w.heap.size + 1) (by simp); have l7_2 := x7 (w2.heap.size) (by simp)
        go_wp2
        all_goals refine bodyPost_ret (by simp [results, Try.results73, go_sem, *] <;> rfl) rfl ?_
        all_goals exact ⟨⟨_, _, rfl⟩, SS.out.keepS (by repeat' (first | with_reducible exact Keep.refl _ _ _ | with_reducible refine Keep.setB ?_ ?_ _ | with_reducible refine Keep.alloc ?_ ?_ _ | with_reducible refine Keep.drew ?_ | omega | (simp; done) | (simp; omega))), (by repeat' (first | with_reducible exact CC.out | with_reducible exact ChgB.refl _ _ _ | with_reducible refine ChgB.setB ?_ ?_ _ | with_reducible refine ChgB.alloc ?_ _ | with_reducible refine ChgB.drew ?_ | with_reducible refine ChgB.drewN ?_ _ | omega | (simp; done) | (simp; omega)))⟩
  · have hE1 : (E == 0) = false := beq_eq_false_iff_ne.2 hE
    go_wp2_with fail
    refine (l01Next_any S A c xs _ _ (SS.out.keepS (by repeat' (first | with_reducible exact Keep.refl _ _ _ | with_reducible refine Keep.setB ?_ ?_ _ | with_reducible refine Keep.alloc ?_ ?_ _ | with_reducible refine Keep.drew ?_ | omega | (simp; done) | (simp; omega))))).mono ?_; rintro e w5 ⟨⟨n5, rfl, n50, n51⟩, s5', ch5⟩; have CC := Lib.hid ((show ChgB S (S + 1) w _ from (by repeat' (first | with_reducible exact CC.out | with_reducible exact ChgB.refl _ _ _ | with_reducible refine ChgB.setB ?_ ?_ _ | with_reducible refine ChgB.alloc ?_ _ | with_reducible refine ChgB.drew ?_ | with_reducible refine ChgB.drewN ?_ _ | omega | (simp; done) | (simp; omega)))).trans ch5.toB); have SS := Lib.hid s5'; obtain ⟨z5, q5, f5, x5, y5⟩ := ckeepB [w.heap.size, w.heap.size + 1, w2.heap.size] (by first | (simp; done) | (simp; omega)) ch5.toB; (try simp only [World.size_alloc, World.size_drew, size_set] at z5); clear s5' ch5; have l5_0 := x5 (w.heap.size) (by simp); have l5_1 := x5 (w.heap.size + 1) (by simp); have l5_2 := x5 (w2.heap.size) (by simp)
    by_cases hq : n5 = 0
    · subst hq
      go_wp2_with fail
      refine (l01Pick_any S A c xs _ 0 _ [-1, (ts.length : Int), 0] _ (SS.out.keepS (by repeat' (first | with_reducible exact Keep.refl _ _ _ | with_reducible refine Keep.setB ?_ ?_ _ | with_reducible refine Keep.alloc ?_ ?_ _ | with_reducible refine Keep.drew ?_ | omega | (simp; done) | (simp; omega)))) ⟨by simp, by simp, .inr ⟨_, 0, rfl, by first | omega | (simp; done) | (simp; omega), fun i x hx => by rcases i with _ | _ | _ | _ | i <;> simp at hx <;> subst hx <;> simp [*, go_sem]⟩⟩ (by simp) (by first | omega | (simp; omega))).mono ?_; rintro e w6 ⟨⟨n6, rfl, nm6⟩, s6', ch6⟩; have CC := Lib.hid ((show ChgB S (S + 1) w _ from (by repeat' (first | with_reducible exact CC.out | with_reducible exact ChgB.refl _ _ _ | with_reducible refine ChgB.setB ?_ ?_ _ | with_reducible refine ChgB.alloc ?_ _ | with_reducible refine ChgB.drew ?_ | with_reducible refine ChgB.drewN ?_ _ | omega | (simp; done) | (simp; omega)))).trans ch6.toB); have SS := Lib.hid s6'; obtain ⟨z6, q6, f6, x6, y6⟩ := ckeepB [w.heap.size, w.heap.size + 1, w2.heap.size] (by first | (simp; done) | (simp; omega)) ch6.toB; (try simp only [World.size_alloc, World.size_drew, size_set] at z6); clear s6' ch6; have l6_0 := x6 (w.heap.size) (by simp); have l6_1 := x6 (w.heap.size + 1) (by simp); have l6_2 := x6 (w2.heap.size) (by simp); clear nm6
      go_wp2_with fail
      refine (l01Pick_any S A c xs _ 0 _ [-1, 0, 1000000000000, 1000000000001] _ (SS.out.keepS (by repeat' (first | with_reducible exact Keep.refl _ _ _ | with_reducible refine Keep.setB ?_ ?_ _ | with_reducible refine Keep.alloc ?_ ?_ _ | with_reducible refine Keep.drew ?_ | omega | (simp; done) | (simp; omega)))) ⟨by simp, by simp, .inr ⟨_, 0, rfl, by first | omega | (simp; done) | (simp; omega), fun i x hx => by rcases i with _ | _ | _ | _ | i <;> simp at hx <;> subst hx <;> simp [*, go_sem]⟩⟩ (by simp) (by first | omega | (simp; omega))).mono ?_; rintro e w7 ⟨⟨n7, rfl, nm7⟩, s7', ch7⟩; have CC := Lib.hid ((show ChgB S (S + 1) w _ from (by repeat' (first | with_reducible exact CC.out | with_reducible exact ChgB.refl _ _ _ | with_reducible refine ChgB.setB ?_ ?_ _ | with_reducible refine ChgB.alloc ?_ _ | with_reducible refine ChgB.drew ?_ | with_reducible refine ChgB.drewN ?_ _ | omega | (simp; done) | (simp; omega)))).trans ch7.toB); have SS := Lib.hid s7'; obtain ⟨z7, q7, f7, x7, y7⟩ := ckeepB [w.heap.size, w.heap.size + 1, w2.heap.size] (by first | (simp; done) | (simp; omega)) ch7.toB; (try simp only [World.size_alloc, World.size_drew, size_set] at z7); clear s7' ch7; have l7_0 := x7 (w.heap.size) (by simp); have l7_1 := x7 (w.heap.size + 1) (by simp); have l7_2 := x7 (w2.heap.size) (by simp); clear nm7
      go_wp2
      all_goals refine bodyPost_ret (by simp [results, Try.results73, go_sem, *] <;> rfl) rfl ?_
      all_goals exact ⟨⟨_, _, rfl⟩, SS.out.keepS (by repeat' (first | with_reducible exact Keep.refl _ _ _ | with_reducible refine Keep.setB ?_ ?_ _ | with_reducible refine Keep.alloc ?_ ?_ _ | with_reducible refine Keep.drew ?_ | omega | (simp; done) | (simp; omega))), (by repeat' (first | with_reducible exact CC.out | with_reducible exact ChgB.refl _ _ _ | with_reducible refine ChgB.setB ?_ ?_ _ | with_reducible refine ChgB.alloc ?_ _ | with_reducible refine ChgB.drew ?_ | with_reducible refine ChgB.drewN ?_ _ | omega | (simp; done) | (simp; omega)))⟩
    · have hq2 : (n5 == 0) = false := beq_eq_false_iff_ne.2 hq
      go_wp2_with fail
      refine (l01Next_any S A c xs _ _ (SS.out.keepS (by repeat' (first | with_reducible exact Keep.refl _ _ _ | with_reducible refine Keep.setB ?_ ?_ _ | with_reducible refine Keep.alloc ?_ ?_ _ | with_reducible refine Keep.drew ?_ | omega | (simp; done) | (simp; omega))))).mono ?_; rintro e w6 ⟨⟨n6, rfl, n60, n61⟩, s6', ch6⟩; have CC := Lib.hid ((show ChgB S (S + 1) w _ from (by repeat' (first | with_reducible exact CC.out | with_reducible exact ChgB.refl _ _ _ | with_reducible refine ChgB.setB ?_ ?_ _ | with_reducible refine ChgB.alloc ?_ _ | with_reducible refine ChgB.drew ?_ | with_reducible refine ChgB.drewN ?_ _ | omega | (simp; done) | (simp; omega)))).trans ch6.toB); have SS := Lib.hid s6'; obtain ⟨z6, q6, f6, x6, y6⟩ := ckeepB [w.heap.size, w.heap.size + 1, w2.heap.size] (by first | (simp; done) | (simp; omega)) ch6.toB; (try simp only [World.size_alloc, World.size_drew, size_set] at z6); clear s6' ch6; have l6_0 := x6 (w.heap.size) (by simp); have l6_1 := x6 (w.heap.size + 1) (by simp); have l6_2 := x6 (w2.heap.size) (by simp)
      go_wp2_with fail
      refine (l01Next_any S A c xs _ _ (SS.out.keepS (by repeat' (first | with_reducible exact Keep.refl _ _ _ | with_reducible refine Keep.setB ?_ ?_ _ | with_reducible refine Keep.alloc ?_ ?_ _ | with_reducible refine Keep.drew ?_ | omega | (simp; done) | (simp; omega))))).mono ?_; rintro e w7 ⟨⟨n7, rfl, n70, n71⟩, s7', ch7⟩; have CC := Lib.hid ((show ChgB S (S + 1) w _ from (by repeat' (first | with_reducible exact CC.out | with_reducible exact ChgB.refl _ _ _ | with_reducible refine ChgB.setB ?_ ?_ _ | with_reducible refine ChgB.alloc ?_ _ | with_reducible refine ChgB.drew ?_ | with_reducible refine ChgB.drewN ?_ _ | omega | (simp; done) | (simp; omega)))).trans ch7.toB); have SS := Lib.hid s7'; obtain ⟨z7, q7, f7, x7, y7⟩ := ckeepB [w.heap.size, w.heap.size + 1, w2.heap.size] (by first | (simp; done) | (simp; omega)) ch7.toB; (try simp only [World.size_alloc, World.size_drew, size_set] at z7); clear s7' ch7; have l7_0 := x7 (w.heap.size) (by simp); have l7_1 := x7 (w.heap.size + 1) (by simp); have l7_2 := x7 (w2.heap.size) (by simp)
      go_wp2
      all_goals refine bodyPost_ret (by simp [results, Try.results73, go_sem, *] <;> rfl) rfl ?_
      all_goals exact ⟨⟨_, _, rfl⟩, SS.out.keepS (by repeat' (first | with_reducible exact Keep.refl _ _ _ | with_reducible refine Keep.setB ?_ ?_ _ | with_reducible refine Keep.alloc ?_ ?_ _ | with_reducible refine Keep.drew ?_ | omega | (simp; done) | (simp; omega))), (by repeat' (first | with_reducible exact CC.out | with_reducible exact ChgB.refl _ _ _ | with_reducible refine ChgB.setB ?_ ?_ _ | with_reducible refine ChgB.alloc ?_ _ | with_reducible refine ChgB.drew ?_ | with_reducible refine ChgB.drewN ?_ _ | omega | (simp; done) | (simp; omega)))⟩
end

section
set_option linter.unusedSimpArgs false
set_option linter.unusedVariables false
open Go.RowKit

set_option maxRecDepth 100000 in
set_option maxHeartbeats 8000000 in
theorem drawCellVerdict_any (A : Option Addr) (c : Nat) (xs : List Int) (w : World) (h : BytesAt w A c xs) :
    Calls Try.prog 37 #[.slice A xs.length c] w fun e w' => (∃ A1 c1 A2 c2 ts ls k a b g a' b' g' z q u, e = .returned (.tuple #[profV A1 (List.length ts) c1 A2 (List.length ls) c2, .int .i64 k, dirV a b g, dirV a' b' g', .int .i64 z, .int .i64 q, .int .i64 u]) ∧ ResP w' w.heap.size w'.heap.size A1 c1 A2 c2 ts ls) ∧ Below w.heap.size w w' := by
  have H := Lib.hid h; clear h
  go_enter Try.func37, Try.ntmps37
  go_wp2_with fail
  refine (l01From_any A c xs _ (H.out.below (B := w.heap.size) (by go_grown) (Nat.le_refl _))).mono ?_
  rintro e w3 ⟨rfl, s3, hb3⟩
  obtain ⟨T3, z3, q3, f3, x3, y3⟩ := lkeep (w := w) [w.heap.size, w.heap.size + 1, w.heap.size + 1 + 1] (by first | (simp; done) | (simp; omega)) (by go_grown) hb3
  simp only [World.size_alloc] at s3
  have hS3 := s3.lt
  have l3_0 := x3 (w.heap.size) (by simp)
  have l3_1 := x3 (w.heap.size + 1) (by simp)
  have l3_2 := x3 (w.heap.size + 1 + 1) (by simp)
  have SS := Lib.hid s3; have BB := Lib.hid T3; clear s3 T3 hb3
  go_upto_region 3 with (go_at_call 72; refine (l08DrawRay_any (w.heap.size + 1 + 1 + 1) A c xs _ (SS.out.keepS (by repeat' (first | with_reducible exact Keep.refl _ _ _ | with_reducible refine Keep.setB ?_ ?_ _ | with_reducible refine Keep.alloc ?_ ?_ _ | with_reducible refine Keep.drew ?_ | omega | (simp; done) | (simp; omega))))).mono ?_; rintro e w4 ⟨⟨A1, c1, A2, c2, ts, ls, kk, da, db, dg, ea, eb, eg, zz, rfl, rp, h1, h2⟩, s4', ch4⟩; have BB := Lib.hid ((show Below w.heap.size w _ from (by first | with_reducible exact BB.out | (have hb_ := BB.out; go_grown; done) | (have hb_ := BB.out; exact bdrewN (by go_grown) _))).trans (ch4.below (by omega) (by first | omega | (simp; done) | (simp; omega)))); have SS := Lib.hid s4'; obtain ⟨z4, q4, f4, x4, y4⟩ := ckeepB [w.heap.size, w.heap.size + 1, w.heap.size + 1 + 1] (by first | (simp; done) | (simp; omega)) ch4; (try simp only [World.size_alloc, World.size_drew, size_set] at z4); clear s4' ch4; have l4_0 := x4 (w.heap.size) (by simp); have l4_1 := x4 (w.heap.size + 1) (by simp); have l4_2 := x4 (w.heap.size + 1 + 1) (by simp); have RP := Lib.hid rp; clear rp)
  obtain ⟨naa1, nab1, naa2, nab2, naa3, nab3, naa4, nab4, naa5, nab5, naa6, nab6, naa7, nab7, naa8, nab8, naa9, nab9⟩ : (w.heap.size = w4.heap.size) = False ∧ (w4.heap.size = w.heap.size) = False ∧ (w.heap.size = w4.heap.size + 1) = False ∧ (w4.heap.size + 1 = w.heap.size) = False ∧ (w.heap.size = w4.heap.size + 1 + 1) = False ∧ (w4.heap.size + 1 + 1 = w.heap.size) = False ∧ (w.heap.size + 1 = w4.heap.size) = False ∧ (w4.heap.size = w.heap.size + 1) = False ∧ (w.heap.size + 1 = w4.heap.size + 1) = False ∧ (w4.heap.size + 1 = w.heap.size + 1) = False ∧ (w.heap.size + 1 = w4.heap.size + 1 + 1) = False ∧ (w4.heap.size + 1 + 1 = w.heap.size + 1) = False ∧ (w.heap.size + 1 + 1 = w4.heap.size) = False ∧ (w4.heap.size = w.heap.size + 1 + 1) = False ∧ (w.heap.size + 1 + 1 = w4.heap.size + 1) = False ∧ (w4.heap.size + 1 = w.heap.size + 1 + 1) = False ∧ (w.heap.size + 1 + 1 = w4.heap.size + 1 + 1) = False ∧ (w4.heap.size + 1 + 1 = w.heap.size + 1 + 1) = False := by
    refine ⟨?_, ?_, ?_, ?_, ?_, ?_, ?_, ?_, ?_, ?_, ?_, ?_, ?_, ?_, ?_, ?_, ?_, ?_⟩ <;> exact eq_false (by omega)
  have sA4_0 : (w.heap.size + 1 + 1 + 1) ≠ w4.heap.size := by omega
  have sB4_0 : w4.heap.size ≠ (w.heap.size + 1 + 1 + 1) := by omega
  have sC4_0 : (w.heap.size + 1 + 1 + 1) < w4.heap.size := by omega
  have sD4_0 : w.heap.size ≤ w4.heap.size := by omega
  have sA4_1 : (w.heap.size + 1 + 1 + 1) ≠ w4.heap.size + 1 := by omega
  have sB4_1 : w4.heap.size + 1 ≠ (w.heap.size + 1 + 1 + 1) := by omega
  have sC4_1 : (w.heap.size + 1 + 1 + 1) < w4.heap.size + 1 := by omega
  have sD4_1 : w.heap.size ≤ w4.heap.size + 1 := by omega
  have sA4_2 : (w.heap.size + 1 + 1 + 1) ≠ w4.heap.size + 1 + 1 := by omega
  have sB4_2 : w4.heap.size + 1 + 1 ≠ (w.heap.size + 1 + 1 + 1) := by omega
  have sC4_2 : (w.heap.size + 1 + 1 + 1) < w4.heap.size + 1 + 1 := by omega
  have sD4_2 : w.heap.size ≤ w4.heap.size + 1 + 1 := by omega
  have zz1 : w.heap.size < w4.heap.size + 1 + 1 := by omega
  have zz2 : w.heap.size ≤ w4.heap.size + 1 := by omega
  have zz3 : w.heap.size < w4.heap.size + 1 := by omega
  refine genS (S := fun w' => w.heap.size < w'.heap.size ∧ w.heap.size + 1 < w'.heap.size ∧ w.heap.size + 1 + 1 < w'.heap.size ∧ w4.heap.size < w'.heap.size ∧ w4.heap.size + 1 < w'.heap.size ∧ w4.heap.size + 1 + 1 < w'.heap.size ∧ w'.cell? ⟨w.heap.size, 0, none⟩ = some (.slice none 0 0) ∧ w'.cell? ⟨w.heap.size, 1, none⟩ = some (.slice none 0 0) ∧ w'.cell? ⟨w.heap.size + 1, 0, none⟩ = some (.int .i64 0) ∧ w'.cell? ⟨w.heap.size + 1, 1, none⟩ = some (.int .i64 0) ∧ w'.cell? ⟨w.heap.size + 1, 2, none⟩ = some (.int .i64 0) ∧ w'.cell? ⟨w.heap.size + 1 + 1, 0, none⟩ = some (.int .i64 0) ∧ w'.cell? ⟨w.heap.size + 1 + 1, 1, none⟩ = some (.int .i64 0) ∧ w'.cell? ⟨w.heap.size + 1 + 1, 2, none⟩ = some (.int .i64 0) ∧ w'.cell? ⟨w4.heap.size, 0, none⟩ = some (.slice A1 (List.length ts) c1) ∧ w'.cell? ⟨w4.heap.size, 1, none⟩ = some (.slice A2 (List.length ls) c2) ∧ w'.cell? ⟨w4.heap.size + 1, 0, none⟩ = some (.int .i64 da) ∧ w'.cell? ⟨w4.heap.size + 1, 1, none⟩ = some (.int .i64 db) ∧ w'.cell? ⟨w4.heap.size + 1, 2, none⟩ = some (.int .i64 dg) ∧ w'.cell? ⟨w4.heap.size + 1 + 1, 0, none⟩ = some (.int .i64 ea) ∧ w'.cell? ⟨w4.heap.size + 1 + 1, 1, none⟩ = some (.int .i64 eb) ∧ w'.cell? ⟨w4.heap.size + 1 + 1, 2, none⟩ = some (.int .i64 eg) ∧ (∀ o, w'.frozen? ⟨w.heap.size, o, none⟩ = false) ∧ (∀ o, w'.frozen? ⟨w.heap.size + 1, o, none⟩ = false) ∧ (∀ o, w'.frozen? ⟨w.heap.size + 1 + 1, o, none⟩ = false) ∧ Below w.heap.size w w' ∧ SrcAt w' (w.heap.size + 1 + 1 + 1) A c xs ∧ ResP w' w3.heap.size w4.heap.size A1 c1 A2 c2 ts ls) ⟨by first | omega | (simp; done) | (simp; omega), by first | omega | (simp; done) | (simp; omega), by first | omega | (simp; done) | (simp; omega), by first | omega | (simp; done) | (simp; omega), by first | omega | (simp; done) | (simp; omega), by first | omega | (simp; done) | (simp; omega), by simp [*, go_sem], by simp [*, go_sem], by simp [*, go_sem], by simp [*, go_sem], by simp [*, go_sem], by simp [*, go_sem], by simp [*, go_sem], by simp [*, go_sem], by simp [*, go_sem], by simp [*, go_sem], by simp [*, go_sem], by simp [*, go_sem], by simp [*, go_sem], by simp [*, go_sem], by simp [*, go_sem], by simp [*, go_sem], fun o => by simp [*, go_sem], fun o => by simp [*, go_sem], fun o => by simp [*, go_sem], (by first | with_reducible exact BB.out | (have hb_ := BB.out; go_grown; done) | (have hb_ := BB.out; exact bdrewN (by go_grown) _)), SS.out.keepS (by repeat' (first | with_reducible exact Keep.refl _ _ _ | with_reducible refine Keep.setB ?_ ?_ _ | with_reducible refine Keep.alloc ?_ ?_ _ | with_reducible refine Keep.drew ?_ | omega | (simp; done) | (simp; omega))), RP.out.kept (by repeat' (first | with_reducible exact Keep.refl _ _ _ | with_reducible refine Keep.setB ?_ ?_ _ | with_reducible refine Keep.alloc ?_ ?_ _ | with_reducible refine Keep.drew ?_ | omega | (simp; done) | (simp; omega)))⟩ ?_
  clear z3 q3 f3 x3 y3 z4 q4 f4 x4 y4 l3_0 l3_1 l3_2 l4_0 l4_1 l4_2
  rintro w5 ⟨lt5_0, lt5_1, lt5_2, lt5_3, lt5_4, lt5_5, c5_0, c5_1, c5_2, c5_3, c5_4, c5_5, c5_6, c5_7, c5_8, c5_9, c5_10, c5_11, c5_12, c5_13, c5_14, c5_15, fz5_0, fz5_1, fz5_2, cc, ss, rr_RP⟩
  have BB := Lib.hid cc; have SS := Lib.hid ss; have RP := Lib.hid rr_RP; clear cc ss rr_RP
  go_wp2_with fail
  refine (l08DrawDistance_any (w.heap.size + 1 + 1 + 1) A c xs A1 A2 c1 c2 ts ls kk da db dg zz _ (SS.out.keepS (by repeat' (first | with_reducible exact Keep.refl _ _ _ | with_reducible refine Keep.setB ?_ ?_ _ | with_reducible refine Keep.alloc ?_ ?_ _ | with_reducible refine Keep.drew ?_ | omega | (simp; done) | (simp; omega)))) ((RP.out.kept (by repeat' (first | with_reducible exact Keep.refl _ _ _ | with_reducible refine Keep.setB ?_ ?_ _ | with_reducible refine Keep.alloc ?_ ?_ _ | with_reducible refine Keep.drew ?_ | omega | (simp; done) | (simp; omega)))).at)).mono ?_; rintro e w6 ⟨⟨pq, pu, rfl⟩, s6', ch6⟩; have BB := Lib.hid ((show Below w.heap.size w _ from (by first | with_reducible exact BB.out | (have hb_ := BB.out; go_grown; done) | (have hb_ := BB.out; exact bdrewN (by go_grown) _))).trans (ch6.below (by omega) (by first | omega | (simp; done) | (simp; omega)))); have RP := Lib.hid (RP.out.keepB (by repeat' (first | with_reducible exact Keep.refl _ _ _ | with_reducible refine Keep.setB ?_ ?_ _ | with_reducible refine Keep.alloc ?_ ?_ _ | with_reducible refine Keep.drew ?_ | omega | (simp; done) | (simp; omega))) ch6 (by omega) (by first | omega | (simp; done) | (simp; omega))); have SS := Lib.hid s6'; obtain ⟨z6, q6, f6, x6, y6⟩ := ckeepB [w.heap.size, w.heap.size + 1, w.heap.size + 1 + 1, w4.heap.size, w4.heap.size + 1, w4.heap.size + 1 + 1] (by first | (simp; done) | (simp; omega)) ch6; (try simp only [World.size_alloc, World.size_drew, size_set] at z6); clear s6' ch6; have l6_0 := x6 (w.heap.size) (by simp); have l6_1 := x6 (w.heap.size + 1) (by simp); have l6_2 := x6 (w.heap.size + 1 + 1) (by simp); have l6_3 := x6 (w4.heap.size) (by simp); have l6_4 := x6 (w4.heap.size + 1) (by simp); have l6_5 := x6 (w4.heap.size + 1 + 1) (by simp)
  go_upto_region 4 with fail
  refine genS (S := fun w' => w.heap.size < w'.heap.size ∧ w.heap.size + 1 < w'.heap.size ∧ w.heap.size + 1 + 1 < w'.heap.size ∧ w4.heap.size < w'.heap.size ∧ w4.heap.size + 1 < w'.heap.size ∧ w4.heap.size + 1 + 1 < w'.heap.size ∧ w'.cell? ⟨w.heap.size, 0, none⟩ = some (.slice none 0 0) ∧ w'.cell? ⟨w.heap.size, 1, none⟩ = some (.slice none 0 0) ∧ w'.cell? ⟨w.heap.size + 1, 0, none⟩ = some (.int .i64 0) ∧ w'.cell? ⟨w.heap.size + 1, 1, none⟩ = some (.int .i64 0) ∧ w'.cell? ⟨w.heap.size + 1, 2, none⟩ = some (.int .i64 0) ∧ w'.cell? ⟨w.heap.size + 1 + 1, 0, none⟩ = some (.int .i64 0) ∧ w'.cell? ⟨w.heap.size + 1 + 1, 1, none⟩ = some (.int .i64 0) ∧ w'.cell? ⟨w.heap.size + 1 + 1, 2, none⟩ = some (.int .i64 0) ∧ w'.cell? ⟨w4.heap.size, 0, none⟩ = some (.slice A1 (List.length ts) c1) ∧ w'.cell? ⟨w4.heap.size, 1, none⟩ = some (.slice A2 (List.length ls) c2) ∧ w'.cell? ⟨w4.heap.size + 1, 0, none⟩ = some (.int .i64 da) ∧ w'.cell? ⟨w4.heap.size + 1, 1, none⟩ = some (.int .i64 db) ∧ w'.cell? ⟨w4.heap.size + 1, 2, none⟩ = some (.int .i64 dg) ∧ w'.cell? ⟨w4.heap.size + 1 + 1, 0, none⟩ = some (.int .i64 ea) ∧ w'.cell? ⟨w4.heap.size + 1 + 1, 1, none⟩ = some (.int .i64 eb) ∧ w'.cell? ⟨w4.heap.size + 1 + 1, 2, none⟩ = some (.int .i64 eg) ∧ (∀ o, w'.frozen? ⟨w.heap.size, o, none⟩ = false) ∧ (∀ o, w'.frozen? ⟨w.heap.size + 1, o, none⟩ = false) ∧ (∀ o, w'.frozen? ⟨w.heap.size + 1 + 1, o, none⟩ = false) ∧ Below w.heap.size w w' ∧ SrcAt w' (w.heap.size + 1 + 1 + 1) A c xs ∧ ResP w' w3.heap.size w4.heap.size A1 c1 A2 c2 ts ls) ⟨by first | omega | (simp; done) | (simp; omega), by first | omega | (simp; done) | (simp; omega), by first | omega | (simp; done) | (simp; omega), by first | omega | (simp; done) | (simp; omega), by first | omega | (simp; done) | (simp; omega), by first | omega | (simp; done) | (simp; omega), by simp [*, go_sem], by simp [*, go_sem], by simp [*, go_sem], by simp [*, go_sem], by simp [*, go_sem], by simp [*, go_sem], by simp [*, go_sem], by simp [*, go_sem], by simp [*, go_sem], by simp [*, go_sem], by simp [*, go_sem], by simp [*, go_sem], by simp [*, go_sem], by simp [*, go_sem], by simp [*, go_sem], by simp [*, go_sem], fun o => by simp [*, go_sem], fun o => by simp [*, go_sem], fun o => by simp [*, go_sem], (by first | with_reducible exact BB.out | (have hb_ := BB.out; go_grown; done) | (have hb_ := BB.out; exact bdrewN (by go_grown) _)), SS.out.keepS (by repeat' (first | with_reducible exact Keep.refl _ _ _ | with_reducible refine Keep.setB ?_ ?_ _ | with_reducible refine Keep.alloc ?_ ?_ _ | with_reducible refine Keep.drew ?_ | omega | (simp; done) | (simp; omega))), RP.out.kept (by repeat' (first | with_reducible exact Keep.refl _ _ _ | with_reducible refine Keep.setB ?_ ?_ _ | with_reducible refine Keep.alloc ?_ ?_ _ | with_reducible refine Keep.drew ?_ | omega | (simp; done) | (simp; omega)))⟩ ?_
  clear z6 q6 f6 x6 y6 l6_0 l6_1 l6_2 l6_3 l6_4 l6_5 lt5_0 lt5_1 lt5_2 lt5_3 lt5_4 lt5_5 c5_0 c5_1 c5_2 c5_3 c5_4 c5_5 c5_6 c5_7 c5_8 c5_9 c5_10 c5_11 c5_12 c5_13 c5_14 c5_15 fz5_0 fz5_1 fz5_2
  rintro w7 ⟨lt7_0, lt7_1, lt7_2, lt7_3, lt7_4, lt7_5, c7_0, c7_1, c7_2, c7_3, c7_4, c7_5, c7_6, c7_7, c7_8, c7_9, c7_10, c7_11, c7_12, c7_13, c7_14, c7_15, fz7_0, fz7_1, fz7_2, cc, ss, rr_RP⟩
  have BB := Lib.hid cc; have SS := Lib.hid ss; have RP := Lib.hid rr_RP; clear cc ss rr_RP
  go_region
  all_goals go_wp2
  all_goals refine bodyPost_ret (by simp [results, Try.results37, go_sem, *] <;> rfl) rfl ?_
  all_goals exact ⟨⟨_, _, _, _, ts, ls, _, _, _, _, _, _, _, _, _, _, rfl, ResP.mono (RP.out.kept (by repeat' (first | with_reducible exact Keep.refl _ _ _ | with_reducible refine Keep.setB ?_ ?_ _ | with_reducible refine Keep.alloc ?_ ?_ _ | with_reducible refine Keep.drew ?_ | omega | (simp; done) | (simp; omega)))) (by first | omega | (simp; done) | (simp; omega)) (by first | omega | (simp; done) | (simp; omega))⟩, (by first | with_reducible exact BB.out | (have hb_ := BB.out; go_grown; done) | (have hb_ := BB.out; exact bdrewN (by go_grown) _))⟩
end

section
set_option linter.unusedSimpArgs false
set_option linter.unusedVariables false
open Go.RowKit

/-- whether a knot and a distance are those of a receiver -/
@[irreducible] def rcB (len : Nat) (knot dist : Int) : Bool := inB knot 0 ((len : Int) - 1) && inB dist 0 1000000000000
@[irreducible] def cvE (ds ss : List Int) (src co si hy co' si' hy' n : Int) (knot dist : Int) : Int := if ceE ds ss src co si hy co' si' hy' n = 0 then (if rcB ds.length knot dist then (if alB si si' then 0 else 5) else 2) else ceE ds ss src co si hy co' si' hy' n
@[irreducible] def cvV (ds ss : List Int) (src co si hy co' si' hy' n : Int) (knot dist : Int) : Int := if cvE ds ss src co si hy co' si' hy' n knot dist = 0 then cvI ds ss src co si hy co' si' hy' n.toNat knot dist else 0
theorem ce_three (ds ss : List Int) (src co si hy co' si' hy' n : Int) : ceE ds ss src co si hy co' si' hy' n = 0 ∨ ceE ds ss src co si hy co' si' hy' n = 1 ∨ ceE ds ss src co si hy co' si' hy' n = 2 := by
  unfold ceE; repeat' split
  all_goals omega
theorem cve_bad {ds ss : List Int} {src co si hy co' si' hy' n : Int} (knot dist : Int) (h : ceE ds ss src co si hy co' si' hy' n ≠ 0) : cvE ds ss src co si hy co' si' hy' n knot dist = ceE ds ss src co si hy co' si' hy' n ∧ cvV ds ss src co si hy co' si' hy' n knot dist = 0 := by
  have e : cvE ds ss src co si hy co' si' hy' n knot dist = ceE ds ss src co si hy co' si' hy' n := by unfold cvE; rw [if_neg h]
  exact ⟨e, by unfold cvV; rw [e, if_neg h]⟩
theorem cve_far {ds ss : List Int} {src co si hy co' si' hy' n knot dist : Int} (h : ceE ds ss src co si hy co' si' hy' n = 0) (hr : rcB ds.length knot dist = false) : cvE ds ss src co si hy co' si' hy' n knot dist = 2 ∧ cvV ds ss src co si hy co' si' hy' n knot dist = 0 := by
  have e : cvE ds ss src co si hy co' si' hy' n knot dist = 2 := by unfold cvE; rw [if_pos h, hr]; rfl
  exact ⟨e, by unfold cvV; rw [e]; rfl⟩
theorem cve_unlike {ds ss : List Int} {src co si hy co' si' hy' n knot dist : Int} (h : ceE ds ss src co si hy co' si' hy' n = 0) (hr : rcB ds.length knot dist = true) (ha : alB si si' = false) : cvE ds ss src co si hy co' si' hy' n knot dist = 5 ∧ cvV ds ss src co si hy co' si' hy' n knot dist = 0 := by
  have e : cvE ds ss src co si hy co' si' hy' n knot dist = 5 := by unfold cvE; rw [if_pos h, hr, ha]; rfl
  exact ⟨e, by unfold cvV; rw [e]; rfl⟩
theorem cve_ok {ds ss : List Int} {src co si hy co' si' hy' : Int} {m : Nat} {knot dist : Int} (h : ceE ds ss src co si hy co' si' hy' m = 0) (hr : rcB ds.length knot dist = true) (ha : alB si si' = true) : cvE ds ss src co si hy co' si' hy' m knot dist = 0 ∧ cvV ds ss src co si hy co' si' hy' m knot dist = cvI ds ss src co si hy co' si' hy' m knot dist := by
  have e : cvE ds ss src co si hy co' si' hy' m knot dist = 0 := by unfold cvE; rw [if_pos h, hr, ha]; rfl
  exact ⟨e, by unfold cvV; rw [if_pos e, Int.toNat_natCast]⟩
set_option maxHeartbeats 1000000 in
theorem isReceiver_any (A1 A2 : Option Addr) (len n2 c1 c2 : Nat) (knot dist : Int) (w : World) (hn : len ≤ maxLen) :
    Calls Try.prog 61 #[profV A1 len c1 A2 n2 c2, .int .i64 knot, .int .i64 dist] w fun e w' => e = .returned (.bool (rcB len knot dist)) ∧ Below w.heap.size w w' := by
  rcases Bool.eq_false_or_eq_true (inB knot 0 ((len : Int) - 1)) with hk | hk
  · rcases Bool.eq_false_or_eq_true (inB dist 0 1000000000000) with hd | hd
    all_goals
      have HE : Hid (rcB len knot dist = inB dist 0 1000000000000) := Lib.hid (by unfold rcB; rw [hk]; rfl)
      rw [hd] at HE
      go_enter Try.func61, Try.ntmps61
      go_wp2_with (first
        | (go_at_call 83; refine (isKnot_any _ _ _ _ _ _ _ _ hn).mono ?_; rintro e w3 ⟨rfl, hb3⟩; obtain ⟨B3, hz3, q3, s3, t3, x3, y3, z3⟩ := bkeep (w := w) [w.heap.size] (by first | (simp; done) | (simp; omega)) (by first | (go_grown; done) | exact bdrewN (by go_grown) _) hb3; (try simp at hz3); clear hb3)
        | (go_at_call 84; refine (within_any _ _ _ _).mono ?_; rintro e w' ⟨rfl, rfl⟩))
      all_goals go_ret
      all_goals exact ⟨ret_bool (HE.out.symm), (by first | with_reducible exact B3 | (go_grown; done) | with_reducible exact bdrewN B3 _ | (go_grown <;> first | with_reducible exact bdrewN B3 _ | with_reducible exact B3))⟩
  · have HE : Hid (rcB len knot dist = false) := Lib.hid (by unfold rcB; rw [hk]; rfl)
    go_enter Try.func61, Try.ntmps61
    go_wp2_with (first
      | (go_at_call 83; refine (isKnot_any _ _ _ _ _ _ _ _ hn).mono ?_; rintro e w3 ⟨rfl, hb3⟩; obtain ⟨B3, hz3, q3, s3, t3, x3, y3, z3⟩ := bkeep (w := w) [w.heap.size] (by first | (simp; done) | (simp; omega)) (by first | (go_grown; done) | exact bdrewN (by go_grown) _) hb3; (try simp at hz3); clear hb3)
      | (go_at_call 84; refine (within_any _ _ _ _).mono ?_; rintro e w' ⟨rfl, rfl⟩))
    all_goals go_ret
    all_goals exact ⟨ret_bool (HE.out.symm), (by first | with_reducible exact B3 | (go_grown; done) | with_reducible exact bdrewN B3 _ | (go_grown <;> first | with_reducible exact bdrewN B3 _ | with_reducible exact B3))⟩
set_option maxHeartbeats 1000000 in
theorem l08Target_any (A1 A2 : Option Addr) (len n2 c1 c2 : Nat) (knot dist : Int) (w : World) (hn : len ≤ maxLen) :
    Calls Try.prog 59 #[profV A1 len c1 A2 n2 c2, .int .i64 knot, .int .i64 dist] w fun e w' => e = .returned (.bool (rcB len knot dist)) ∧ Below w.heap.size w w' := by
  unfold maxLen at hn
  rcases Bool.eq_false_or_eq_true (inB knot 0 ((len : Int) - 1)) with hk | hk
  · rcases Bool.eq_false_or_eq_true (inB dist 0 1000000000000) with hd | hd
    all_goals
      have HE : Hid (rcB len knot dist = inB dist 0 1000000000000) := Lib.hid (by unfold rcB; rw [hk]; rfl)
      rw [hd] at HE
      go_enter Try.func59, Try.ntmps59
      go_wp2_with (go_at_call 77; refine (l01In_any _ _ _ _).mono ?_; rintro e w' ⟨rfl, rfl⟩)
      all_goals go_ret
      all_goals exact ⟨ret_bool (HE.out.symm), by go_grown⟩
  · have HE : Hid (rcB len knot dist = false) := Lib.hid (by unfold rcB; rw [hk]; rfl)
    go_enter Try.func59, Try.ntmps59
    go_wp2_with (go_at_call 77; refine (l01In_any _ _ _ _).mono ?_; rintro e w' ⟨rfl, rfl⟩)
    all_goals go_ret
    all_goals exact ⟨ret_bool (HE.out.symm), by go_grown⟩
set_option maxHeartbeats 4000000 in
theorem implCellVerdict_any (A1 A2 : Option Addr) (c1 c2 : Nat) (ds ss : List Int) (src co si hy co' si' hy' n knot dist : Int) (w : World) (h : ProfAt w A1 c1 A2 c2 ds ss) :
    Calls Try.prog 22 #[profV A1 ds.length c1 A2 ss.length c2, .int .i64 src, dirV co si hy, dirV co' si' hy', .int .i64 n, .int .i64 knot, .int .i64 dist] w fun e w' => e = .returned (.tuple #[.int .i64 (cvV ds ss src co si hy co' si' hy' n knot dist), .int .i64 (cvE ds ss src co si hy co' si' hy' n knot dist)]) ∧ Below w.heap.size w w' := by
  have hnl := Nat.le_trans h.1.1 h.1.2.1
  have H := Lib.hid h; clear h
  rcases ce_three ds ss src co si hy co' si' hy' n with hc | hc | hc
  rotate_left
  · have ee := cve_bad knot dist (show ceE ds ss src co si hy co' si' hy' n ≠ 0 by omega)
    rw [hc] at ee
    have L8 := Lib.hid (show ∀ w, ProfAt w A1 c1 A2 c2 ds ss → Calls Try.prog 48 #[profV A1 ds.length c1 A2 ss.length c2, .int .i64 src, dirV co si hy, dirV co' si' hy', .int .i64 n] w fun e w' => e = .returned (.int .i64 1) ∧ Below w.heap.size w w' from fun w h => by have q := cellCode_any A1 A2 c1 c2 ds ss src co si hy co' si' hy' n w h; rw [hc] at q; exact q)
    have RV : Hid (∀ w, Calls Try.prog 61 #[profV A1 ds.length c1 A2 ss.length c2, .int .i64 knot, .int .i64 dist] w fun e w' => e = .returned (.bool (rcB ds.length knot dist)) ∧ Below w.heap.size w w') := Lib.hid (fun w => isReceiver_any A1 A2 ds.length ss.length c1 c2 knot dist w hnl)
    have EE := Lib.hid ee.1; have EV := Lib.hid ee.2; clear ee
    go_enter Try.func22, Try.ntmps22
    go_wp2_with (first
      | (go_at_call 48; refine (L8.out _ (H.out.below (B := w.heap.size) (by first | exact Below.refl _ _ | (go_grown; done) | exact bdrewN (by go_grown) _) (Nat.le_refl _))).mono ?_; rintro e w1 ⟨rfl, hb1⟩; obtain ⟨B1, hz1, q1, s1, t1, x1, y1, z1⟩ := bkeep (w := w) [w.heap.size, w.heap.size + 1, w.heap.size + 1 + 1] (by first | (simp; done) | (simp; omega)) (by first | (go_grown; done) | exact bdrewN (by go_grown) _) hb1; (try simp at hz1); clear hb1)
      | (go_at_call 61; refine (RV.out _).mono ?_; rintro e w2 ⟨rfl, hb2⟩; obtain ⟨B2, hz2, q2, s2, t2, x2, y2, z2⟩ := bkeep (w := w) [w.heap.size, w.heap.size + 1, w.heap.size + 1 + 1] (by first | (simp; done) | (simp; omega)) (by first | (go_grown; done) | exact bdrewN (by go_grown) _) hb2; (try simp at hz2); clear hb2))
    all_goals refine bodyPost_ret (by simp [results, Try.results22, go_sem, *] <;> rfl) rfl ?_
    all_goals exact ⟨by rw [EE.out, EV.out], by first | exact (by first | with_reducible exact B3 | (go_grown; done) | with_reducible exact bdrewN B3 _ | (go_grown <;> first | with_reducible exact bdrewN B3 _ | with_reducible exact B3)) | exact (by first | with_reducible exact B2 | (go_grown; done) | with_reducible exact bdrewN B2 _ | (go_grown <;> first | with_reducible exact bdrewN B2 _ | with_reducible exact B2)) | exact (by first | with_reducible exact B1 | (go_grown; done) | with_reducible exact bdrewN B1 _ | (go_grown <;> first | with_reducible exact bdrewN B1 _ | with_reducible exact B1))⟩
  · have ee := cve_bad knot dist (show ceE ds ss src co si hy co' si' hy' n ≠ 0 by omega)
    rw [hc] at ee
    have L8 := Lib.hid (show ∀ w, ProfAt w A1 c1 A2 c2 ds ss → Calls Try.prog 48 #[profV A1 ds.length c1 A2 ss.length c2, .int .i64 src, dirV co si hy, dirV co' si' hy', .int .i64 n] w fun e w' => e = .returned (.int .i64 2) ∧ Below w.heap.size w w' from fun w h => by have q := cellCode_any A1 A2 c1 c2 ds ss src co si hy co' si' hy' n w h; rw [hc] at q; exact q)
    rcases Bool.eq_false_or_eq_true (rcB ds.length knot dist) with hr | hr
    · have RV := Lib.hid (show ∀ w, Calls Try.prog 61 #[profV A1 ds.length c1 A2 ss.length c2, .int .i64 knot, .int .i64 dist] w fun e w' => e = .returned (.bool true) ∧ Below w.heap.size w w' from fun w => by have q := isReceiver_any A1 A2 ds.length ss.length c1 c2 knot dist w hnl; rw [hr] at q; exact q)
      have EE := Lib.hid ee.1; have EV := Lib.hid ee.2; clear ee
      go_enter Try.func22, Try.ntmps22
      go_wp2_with (first
      | (go_at_call 48; refine (L8.out _ (H.out.below (B := w.heap.size) (by first | exact Below.refl _ _ | (go_grown; done) | exact bdrewN (by go_grown) _) (Nat.le_refl _))).mono ?_; rintro e w1 ⟨rfl, hb1⟩; obtain ⟨B1, hz1, q1, s1, t1, x1, y1, z1⟩ := bkeep (w := w) [w.heap.size, w.heap.size + 1, w.heap.size + 1 + 1] (by first | (simp; done) | (simp; omega)) (by first | (go_grown; done) | exact bdrewN (by go_grown) _) hb1; (try simp at hz1); clear hb1)
      | (go_at_call 61; refine (RV.out _).mono ?_; rintro e w2 ⟨rfl, hb2⟩; obtain ⟨B2, hz2, q2, s2, t2, x2, y2, z2⟩ := bkeep (w := w) [w.heap.size, w.heap.size + 1, w.heap.size + 1 + 1] (by first | (simp; done) | (simp; omega)) (by first | (go_grown; done) | exact bdrewN (by go_grown) _) hb2; (try simp at hz2); clear hb2))
      all_goals refine bodyPost_ret (by simp [results, Try.results22, go_sem, *] <;> rfl) rfl ?_
      all_goals exact ⟨by rw [EE.out, EV.out], by first | exact (by first | with_reducible exact B3 | (go_grown; done) | with_reducible exact bdrewN B3 _ | (go_grown <;> first | with_reducible exact bdrewN B3 _ | with_reducible exact B3)) | exact (by first | with_reducible exact B2 | (go_grown; done) | with_reducible exact bdrewN B2 _ | (go_grown <;> first | with_reducible exact bdrewN B2 _ | with_reducible exact B2)) | exact (by first | with_reducible exact B1 | (go_grown; done) | with_reducible exact bdrewN B1 _ | (go_grown <;> first | with_reducible exact bdrewN B1 _ | with_reducible exact B1))⟩
    · have RV := Lib.hid (show ∀ w, Calls Try.prog 61 #[profV A1 ds.length c1 A2 ss.length c2, .int .i64 knot, .int .i64 dist] w fun e w' => e = .returned (.bool false) ∧ Below w.heap.size w w' from fun w => by have q := isReceiver_any A1 A2 ds.length ss.length c1 c2 knot dist w hnl; rw [hr] at q; exact q)
      have EE := Lib.hid ee.1; have EV := Lib.hid ee.2; clear ee
      go_enter Try.func22, Try.ntmps22
      go_wp2_with (first
      | (go_at_call 48; refine (L8.out _ (H.out.below (B := w.heap.size) (by first | exact Below.refl _ _ | (go_grown; done) | exact bdrewN (by go_grown) _) (Nat.le_refl _))).mono ?_; rintro e w1 ⟨rfl, hb1⟩; obtain ⟨B1, hz1, q1, s1, t1, x1, y1, z1⟩ := bkeep (w := w) [w.heap.size, w.heap.size + 1, w.heap.size + 1 + 1] (by first | (simp; done) | (simp; omega)) (by first | (go_grown; done) | exact bdrewN (by go_grown) _) hb1; (try simp at hz1); clear hb1)
      | (go_at_call 61; refine (RV.out _).mono ?_; rintro e w2 ⟨rfl, hb2⟩; obtain ⟨B2, hz2, q2, s2, t2, x2, y2, z2⟩ := bkeep (w := w) [w.heap.size, w.heap.size + 1, w.heap.size + 1 + 1] (by first | (simp; done) | (simp; omega)) (by first | (go_grown; done) | exact bdrewN (by go_grown) _) hb2; (try simp at hz2); clear hb2))
      all_goals refine bodyPost_ret (by simp [results, Try.results22, go_sem, *] <;> rfl) rfl ?_
      all_goals exact ⟨by rw [EE.out, EV.out], by first | exact (by first | with_reducible exact B3 | (go_grown; done) | with_reducible exact bdrewN B3 _ | (go_grown <;> first | with_reducible exact bdrewN B3 _ | with_reducible exact B3)) | exact (by first | with_reducible exact B2 | (go_grown; done) | with_reducible exact bdrewN B2 _ | (go_grown <;> first | with_reducible exact bdrewN B2 _ | with_reducible exact B2)) | exact (by first | with_reducible exact B1 | (go_grown; done) | with_reducible exact bdrewN B1 _ | (go_grown <;> first | with_reducible exact bdrewN B1 _ | with_reducible exact B1))⟩
  rcases Bool.eq_false_or_eq_true (alB si si') with ha | ha
  · have L8 := Lib.hid (show ∀ w, ProfAt w A1 c1 A2 c2 ds ss → Calls Try.prog 48 #[profV A1 ds.length c1 A2 ss.length c2, .int .i64 src, dirV co si hy, dirV co' si' hy', .int .i64 n] w fun e w' => e = .returned (.int .i64 0) ∧ Below w.heap.size w w' from fun w h => by have q := cellCode_any A1 A2 c1 c2 ds ss src co si hy co' si' hy' n w h; rw [hc] at q; exact q)
    rcases Bool.eq_false_or_eq_true (rcB ds.length knot dist) with hr | hr
    · have RV := Lib.hid (show ∀ w, Calls Try.prog 61 #[profV A1 ds.length c1 A2 ss.length c2, .int .i64 knot, .int .i64 dist] w fun e w' => e = .returned (.bool true) ∧ Below w.heap.size w w' from fun w => by have q := isReceiver_any A1 A2 ds.length ss.length c1 c2 knot dist w hnl; rw [hr] at q; exact q)
      obtain ⟨r, r', m, rfl, hm⟩ := ce_zero hc
      have ee := cve_ok hc hr ha
      have hs := al_eq ha
      have EE := Lib.hid ee.1; have EV := Lib.hid ee.2; clear ee
      have RR := Lib.hid r; have RQ := Lib.hid r'; have HS := Lib.hid hs; have HC := Lib.hid hc; clear r r' hs hc
      go_enter Try.func22, Try.ntmps22
      have AL := Lib.hid (show ∀ w, Calls Try.prog 49 #[dirV co si hy, dirV co' si' hy'] w fun e w' => e = .returned (.bool true) ∧ Below w.heap.size w w' from fun w => by have q := areAlike_any co si hy co' si' hy' w; rw [ha] at q; exact q)
      go_wp2_with fail
      (refine (L8.out _ (H.out.below (B := w.heap.size) (by first | exact Below.refl _ _ | (go_grown; done) | exact bdrewN (by go_grown) _) (Nat.le_refl _))).mono ?_; rintro e w1 ⟨rfl, hb1⟩; obtain ⟨B1, hz1, q1, s1, t1, x1, y1, z1⟩ := bkeep (w := w) [w.heap.size, w.heap.size + 1, w.heap.size + 1 + 1] (by first | (simp; done) | (simp; omega)) (by first | (go_grown; done) | exact bdrewN (by go_grown) _) hb1; (try simp at hz1); clear hb1)
      go_wp2_with fail
      (refine (RV.out _).mono ?_; rintro e w2 ⟨rfl, hb2⟩; obtain ⟨B2, hz2, q2, s2, t2, x2, y2, z2⟩ := bkeep (w := w) [w.heap.size, w.heap.size + 1, w.heap.size + 1 + 1] (by first | (simp; done) | (simp; omega)) (by first | (go_grown; done) | exact bdrewN (by go_grown) _) hb2; (try simp at hz2); clear hb2)
      go_wp2_with fail
      (refine (AL.out _).mono ?_; rintro e w3 ⟨rfl, hb3⟩; obtain ⟨B3, hz3, q3, s3, t3, x3, y3, z3⟩ := bkeep (w := w) [w.heap.size, w.heap.size + 1, w.heap.size + 1 + 1] (by first | (simp; done) | (simp; omega)) (by first | (go_grown; done) | exact bdrewN (by go_grown) _) hb3; (try simp at hz3); clear hb3)
      go_wp2_with fail
      refine (newCell_any A1 A2 c1 c2 ds ss src co si hy co' si' hy' m _ (H.out.below (B := w.heap.size) (by first | exact Below.refl _ _ | (go_grown; done) | exact bdrewN (by go_grown) _) (Nat.le_refl _)) RR.out RQ.out HS.out hm).mono ?_
      rintro e w4 ⟨⟨cb, As, Bs, cs, cs', rfl, hcb, F⟩, hb4⟩
      obtain ⟨B4, hz4, q4, s4, t4, x4, y4, z4⟩ := bkeep (w := w) [w.heap.size, w.heap.size + 1, w.heap.size + 1 + 1] (by first | (simp; done) | (simp; omega)) (by first | (go_grown; done) | exact bdrewN (by go_grown) _) hb4; (try simp at hz4); clear hb4
      have VF := Lib.hid F; have lcb := F.lt; clear F
      go_wp2_with fail
      refine (implVerdict_any A1 A2 c1 c2 ds ss src co si hy co' si' hy' m cb As Bs cs cs' knot dist _ (VF.out.below (B := w4.heap.size) (by first | exact Below.refl _ _ | (go_grown; done) | exact bdrewN (by go_grown) _) (Nat.le_refl _)) RR.out RQ.out hm).mono ?_
      rintro e w5 ⟨rfl, hb5⟩
      obtain ⟨B5, hz5, q5, s5, t5, x5, y5, z5⟩ := bkeep (w := w) [w.heap.size, w.heap.size + 1, w.heap.size + 1 + 1] (by first | (simp; done) | (simp; omega)) (by first | (go_grown; done) | exact bdrewN (by go_grown) _) hb5; (try simp at hz5); clear hb5
      go_wp2
      refine bodyPost_ret (by simp [results, Try.results22, go_sem, *] <;> rfl) rfl ?_
      exact ⟨by rw [EE.out, EV.out] <;> rfl, (by first | with_reducible exact B5 | (go_grown; done) | with_reducible exact bdrewN B5 _ | (go_grown <;> first | with_reducible exact bdrewN B5 _ | with_reducible exact B5))⟩
    · have ee := cve_far hc hr
      have RV := Lib.hid (show ∀ w, Calls Try.prog 61 #[profV A1 ds.length c1 A2 ss.length c2, .int .i64 knot, .int .i64 dist] w fun e w' => e = .returned (.bool false) ∧ Below w.heap.size w w' from fun w => by have q := isReceiver_any A1 A2 ds.length ss.length c1 c2 knot dist w hnl; rw [hr] at q; exact q)
      have EE := Lib.hid ee.1; have EV := Lib.hid ee.2; clear ee
      go_enter Try.func22, Try.ntmps22
      go_wp2_with (first
      | (go_at_call 48; refine (L8.out _ (H.out.below (B := w.heap.size) (by first | exact Below.refl _ _ | (go_grown; done) | exact bdrewN (by go_grown) _) (Nat.le_refl _))).mono ?_; rintro e w1 ⟨rfl, hb1⟩; obtain ⟨B1, hz1, q1, s1, t1, x1, y1, z1⟩ := bkeep (w := w) [w.heap.size, w.heap.size + 1, w.heap.size + 1 + 1] (by first | (simp; done) | (simp; omega)) (by first | (go_grown; done) | exact bdrewN (by go_grown) _) hb1; (try simp at hz1); clear hb1)
      | (go_at_call 61; refine (RV.out _).mono ?_; rintro e w2 ⟨rfl, hb2⟩; obtain ⟨B2, hz2, q2, s2, t2, x2, y2, z2⟩ := bkeep (w := w) [w.heap.size, w.heap.size + 1, w.heap.size + 1 + 1] (by first | (simp; done) | (simp; omega)) (by first | (go_grown; done) | exact bdrewN (by go_grown) _) hb2; (try simp at hz2); clear hb2))
      all_goals refine bodyPost_ret (by simp [results, Try.results22, go_sem, *] <;> rfl) rfl ?_
      all_goals exact ⟨by rw [EE.out, EV.out], by first | exact (by first | with_reducible exact B3 | (go_grown; done) | with_reducible exact bdrewN B3 _ | (go_grown <;> first | with_reducible exact bdrewN B3 _ | with_reducible exact B3)) | exact (by first | with_reducible exact B2 | (go_grown; done) | with_reducible exact bdrewN B2 _ | (go_grown <;> first | with_reducible exact bdrewN B2 _ | with_reducible exact B2)) | exact (by first | with_reducible exact B1 | (go_grown; done) | with_reducible exact bdrewN B1 _ | (go_grown <;> first | with_reducible exact bdrewN B1 _ | with_reducible exact B1))⟩
  · have L8 := Lib.hid (show ∀ w, ProfAt w A1 c1 A2 c2 ds ss → Calls Try.prog 48 #[profV A1 ds.length c1 A2 ss.length c2, .int .i64 src, dirV co si hy, dirV co' si' hy', .int .i64 n] w fun e w' => e = .returned (.int .i64 0) ∧ Below w.heap.size w w' from fun w h => by have q := cellCode_any A1 A2 c1 c2 ds ss src co si hy co' si' hy' n w h; rw [hc] at q; exact q)
    rcases Bool.eq_false_or_eq_true (rcB ds.length knot dist) with hr | hr
    · have ee := cve_unlike hc hr ha
      have RV := Lib.hid (show ∀ w, Calls Try.prog 61 #[profV A1 ds.length c1 A2 ss.length c2, .int .i64 knot, .int .i64 dist] w fun e w' => e = .returned (.bool true) ∧ Below w.heap.size w w' from fun w => by have q := isReceiver_any A1 A2 ds.length ss.length c1 c2 knot dist w hnl; rw [hr] at q; exact q)
      have EE := Lib.hid ee.1; have EV := Lib.hid ee.2; clear ee
      have AL := Lib.hid (show ∀ w, Calls Try.prog 49 #[dirV co si hy, dirV co' si' hy'] w fun e w' => e = .returned (.bool false) ∧ Below w.heap.size w w' from fun w => by have q := areAlike_any co si hy co' si' hy' w; rw [ha] at q; exact q)
      go_enter Try.func22, Try.ntmps22
      go_wp2_with (first
      | (go_at_call 48; refine (L8.out _ (H.out.below (B := w.heap.size) (by first | exact Below.refl _ _ | (go_grown; done) | exact bdrewN (by go_grown) _) (Nat.le_refl _))).mono ?_; rintro e w1 ⟨rfl, hb1⟩; obtain ⟨B1, hz1, q1, s1, t1, x1, y1, z1⟩ := bkeep (w := w) [w.heap.size, w.heap.size + 1, w.heap.size + 1 + 1] (by first | (simp; done) | (simp; omega)) (by first | (go_grown; done) | exact bdrewN (by go_grown) _) hb1; (try simp at hz1); clear hb1)
      | (go_at_call 61; refine (RV.out _).mono ?_; rintro e w2 ⟨rfl, hb2⟩; obtain ⟨B2, hz2, q2, s2, t2, x2, y2, z2⟩ := bkeep (w := w) [w.heap.size, w.heap.size + 1, w.heap.size + 1 + 1] (by first | (simp; done) | (simp; omega)) (by first | (go_grown; done) | exact bdrewN (by go_grown) _) hb2; (try simp at hz2); clear hb2)
      | (go_at_call 49; refine (AL.out _).mono ?_; rintro e w3 ⟨rfl, hb3⟩; obtain ⟨B3, hz3, q3, s3, t3, x3, y3, z3⟩ := bkeep (w := w) [w.heap.size, w.heap.size + 1, w.heap.size + 1 + 1] (by first | (simp; done) | (simp; omega)) (by first | (go_grown; done) | exact bdrewN (by go_grown) _) hb3; (try simp at hz3); clear hb3))
      all_goals refine bodyPost_ret (by simp [results, Try.results22, go_sem, *] <;> rfl) rfl ?_
      all_goals exact ⟨by rw [EE.out, EV.out], by first | exact (by first | with_reducible exact B3 | (go_grown; done) | with_reducible exact bdrewN B3 _ | (go_grown <;> first | with_reducible exact bdrewN B3 _ | with_reducible exact B3)) | exact (by first | with_reducible exact B2 | (go_grown; done) | with_reducible exact bdrewN B2 _ | (go_grown <;> first | with_reducible exact bdrewN B2 _ | with_reducible exact B2)) | exact (by first | with_reducible exact B1 | (go_grown; done) | with_reducible exact bdrewN B1 _ | (go_grown <;> first | with_reducible exact bdrewN B1 _ | with_reducible exact B1))⟩
    · have ee := cve_far hc hr
      have RV := Lib.hid (show ∀ w, Calls Try.prog 61 #[profV A1 ds.length c1 A2 ss.length c2, .int .i64 knot, .int .i64 dist] w fun e w' => e = .returned (.bool false) ∧ Below w.heap.size w w' from fun w => by have q := isReceiver_any A1 A2 ds.length ss.length c1 c2 knot dist w hnl; rw [hr] at q; exact q)
      have EE := Lib.hid ee.1; have EV := Lib.hid ee.2; clear ee
      go_enter Try.func22, Try.ntmps22
      go_wp2_with (first
      | (go_at_call 48; refine (L8.out _ (H.out.below (B := w.heap.size) (by first | exact Below.refl _ _ | (go_grown; done) | exact bdrewN (by go_grown) _) (Nat.le_refl _))).mono ?_; rintro e w1 ⟨rfl, hb1⟩; obtain ⟨B1, hz1, q1, s1, t1, x1, y1, z1⟩ := bkeep (w := w) [w.heap.size, w.heap.size + 1, w.heap.size + 1 + 1] (by first | (simp; done) | (simp; omega)) (by first | (go_grown; done) | exact bdrewN (by go_grown) _) hb1; (try simp at hz1); clear hb1)
      | (go_at_call 61; refine (RV.out _).mono ?_; rintro e w2 ⟨rfl, hb2⟩; obtain ⟨B2, hz2, q2, s2, t2, x2, y2, z2⟩ := bkeep (w := w) [w.heap.size, w.heap.size + 1, w.heap.size + 1 + 1] (by first | (simp; done) | (simp; omega)) (by first | (go_grown; done) | exact bdrewN (by go_grown) _) hb2; (try simp at hz2); clear hb2))
      all_goals refine bodyPost_ret (by simp [results, Try.results22, go_sem, *] <;> rfl) rfl ?_
      all_goals exact ⟨by rw [EE.out, EV.out], by first | exact (by first | with_reducible exact B3 | (go_grown; done) | with_reducible exact bdrewN B3 _ | (go_grown <;> first | with_reducible exact bdrewN B3 _ | with_reducible exact B3)) | exact (by first | with_reducible exact B2 | (go_grown; done) | with_reducible exact bdrewN B2 _ | (go_grown <;> first | with_reducible exact bdrewN B2 _ | with_reducible exact B2)) | exact (by first | with_reducible exact B1 | (go_grown; done) | with_reducible exact bdrewN B1 _ | (go_grown <;> first | with_reducible exact bdrewN B1 _ | with_reducible exact B1))⟩
set_option maxHeartbeats 4000000 in
theorem specCellVerdict_any (A1 A2 : Option Addr) (c1 c2 : Nat) (ds ss : List Int) (src co si hy co' si' hy' n knot dist : Int) (w : World) (h : ProfAt w A1 c1 A2 c2 ds ss) :
    Calls Try.prog 21 #[profV A1 ds.length c1 A2 ss.length c2, .int .i64 src, dirV co si hy, dirV co' si' hy', .int .i64 n, .int .i64 knot, .int .i64 dist] w fun e w' => e = .returned (.tuple #[.int .i64 (cvV ds ss src co si hy co' si' hy' n knot dist), .int .i64 (cvE ds ss src co si hy co' si' hy' n knot dist)]) ∧ Below w.heap.size w w' := by
  have hnl := Nat.le_trans h.1.1 h.1.2.1
  have H := Lib.hid h; clear h
  rcases ce_three ds ss src co si hy co' si' hy' n with hc | hc | hc
  rotate_left
  · have ee := cve_bad knot dist (show ceE ds ss src co si hy co' si' hy' n ≠ 0 by omega)
    rw [hc] at ee
    have L8 := Lib.hid (show ∀ w, ProfAt w A1 c1 A2 c2 ds ss → Calls Try.prog 45 #[profV A1 ds.length c1 A2 ss.length c2, .int .i64 src, dirV co si hy, dirV co' si' hy', .int .i64 n] w fun e w' => e = .returned (.int .i64 1) ∧ Below w.heap.size w w' from fun w h => by have q := l08Code_any A1 A2 c1 c2 ds ss src co si hy co' si' hy' n w h; rw [(cr_bad (show ceE ds ss src co si hy co' si' hy' n ≠ 0 by omega)).2.2.2, hc] at q; exact q)
    have RV : Hid (∀ w, Calls Try.prog 59 #[profV A1 ds.length c1 A2 ss.length c2, .int .i64 knot, .int .i64 dist] w fun e w' => e = .returned (.bool (rcB ds.length knot dist)) ∧ Below w.heap.size w w') := Lib.hid (fun w => l08Target_any A1 A2 ds.length ss.length c1 c2 knot dist w hnl)
    have EE := Lib.hid ee.1; have EV := Lib.hid ee.2; clear ee
    go_enter Try.func21, Try.ntmps21
    go_wp2_with (first
      | (go_at_call 45; refine (L8.out _ (H.out.below (B := w.heap.size) (by first | exact Below.refl _ _ | (go_grown; done) | exact bdrewN (by go_grown) _) (Nat.le_refl _))).mono ?_; rintro e w1 ⟨rfl, hb1⟩; obtain ⟨B1, hz1, q1, s1, t1, x1, y1, z1⟩ := bkeep (w := w) [w.heap.size, w.heap.size + 1, w.heap.size + 1 + 1] (by first | (simp; done) | (simp; omega)) (by first | (go_grown; done) | exact bdrewN (by go_grown) _) hb1; (try simp at hz1); clear hb1)
      | (go_at_call 59; refine (RV.out _).mono ?_; rintro e w2 ⟨rfl, hb2⟩; obtain ⟨B2, hz2, q2, s2, t2, x2, y2, z2⟩ := bkeep (w := w) [w.heap.size, w.heap.size + 1, w.heap.size + 1 + 1] (by first | (simp; done) | (simp; omega)) (by first | (go_grown; done) | exact bdrewN (by go_grown) _) hb2; (try simp at hz2); clear hb2))
    all_goals refine bodyPost_ret (by simp [results, Try.results21, go_sem, *] <;> rfl) rfl ?_
    all_goals exact ⟨by rw [EE.out, EV.out], by first | exact (by first | with_reducible exact B3 | (go_grown; done) | with_reducible exact bdrewN B3 _ | (go_grown <;> first | with_reducible exact bdrewN B3 _ | with_reducible exact B3)) | exact (by first | with_reducible exact B2 | (go_grown; done) | with_reducible exact bdrewN B2 _ | (go_grown <;> first | with_reducible exact bdrewN B2 _ | with_reducible exact B2)) | exact (by first | with_reducible exact B1 | (go_grown; done) | with_reducible exact bdrewN B1 _ | (go_grown <;> first | with_reducible exact bdrewN B1 _ | with_reducible exact B1))⟩
  · have ee := cve_bad knot dist (show ceE ds ss src co si hy co' si' hy' n ≠ 0 by omega)
    rw [hc] at ee
    have L8 := Lib.hid (show ∀ w, ProfAt w A1 c1 A2 c2 ds ss → Calls Try.prog 45 #[profV A1 ds.length c1 A2 ss.length c2, .int .i64 src, dirV co si hy, dirV co' si' hy', .int .i64 n] w fun e w' => e = .returned (.int .i64 2) ∧ Below w.heap.size w w' from fun w h => by have q := l08Code_any A1 A2 c1 c2 ds ss src co si hy co' si' hy' n w h; rw [(cr_bad (show ceE ds ss src co si hy co' si' hy' n ≠ 0 by omega)).2.2.2, hc] at q; exact q)
    rcases Bool.eq_false_or_eq_true (rcB ds.length knot dist) with hr | hr
    · have RV := Lib.hid (show ∀ w, Calls Try.prog 59 #[profV A1 ds.length c1 A2 ss.length c2, .int .i64 knot, .int .i64 dist] w fun e w' => e = .returned (.bool true) ∧ Below w.heap.size w w' from fun w => by have q := l08Target_any A1 A2 ds.length ss.length c1 c2 knot dist w hnl; rw [hr] at q; exact q)
      have EE := Lib.hid ee.1; have EV := Lib.hid ee.2; clear ee
      go_enter Try.func21, Try.ntmps21
      go_wp2_with (first
      | (go_at_call 45; refine (L8.out _ (H.out.below (B := w.heap.size) (by first | exact Below.refl _ _ | (go_grown; done) | exact bdrewN (by go_grown) _) (Nat.le_refl _))).mono ?_; rintro e w1 ⟨rfl, hb1⟩; obtain ⟨B1, hz1, q1, s1, t1, x1, y1, z1⟩ := bkeep (w := w) [w.heap.size, w.heap.size + 1, w.heap.size + 1 + 1] (by first | (simp; done) | (simp; omega)) (by first | (go_grown; done) | exact bdrewN (by go_grown) _) hb1; (try simp at hz1); clear hb1)
      | (go_at_call 59; refine (RV.out _).mono ?_; rintro e w2 ⟨rfl, hb2⟩; obtain ⟨B2, hz2, q2, s2, t2, x2, y2, z2⟩ := bkeep (w := w) [w.heap.size, w.heap.size + 1, w.heap.size + 1 + 1] (by first | (simp; done) | (simp; omega)) (by first | (go_grown; done) | exact bdrewN (by go_grown) _) hb2; (try simp at hz2); clear hb2))
      all_goals refine bodyPost_ret (by simp [results, Try.results21, go_sem, *] <;> rfl) rfl ?_
      all_goals exact ⟨by rw [EE.out, EV.out], by first | exact (by first | with_reducible exact B3 | (go_grown; done) | with_reducible exact bdrewN B3 _ | (go_grown <;> first | with_reducible exact bdrewN B3 _ | with_reducible exact B3)) | exact (by first | with_reducible exact B2 | (go_grown; done) | with_reducible exact bdrewN B2 _ | (go_grown <;> first | with_reducible exact bdrewN B2 _ | with_reducible exact B2)) | exact (by first | with_reducible exact B1 | (go_grown; done) | with_reducible exact bdrewN B1 _ | (go_grown <;> first | with_reducible exact bdrewN B1 _ | with_reducible exact B1))⟩
    · have RV := Lib.hid (show ∀ w, Calls Try.prog 59 #[profV A1 ds.length c1 A2 ss.length c2, .int .i64 knot, .int .i64 dist] w fun e w' => e = .returned (.bool false) ∧ Below w.heap.size w w' from fun w => by have q := l08Target_any A1 A2 ds.length ss.length c1 c2 knot dist w hnl; rw [hr] at q; exact q)
      have EE := Lib.hid ee.1; have EV := Lib.hid ee.2; clear ee
      go_enter Try.func21, Try.ntmps21
      go_wp2_with (first
      | (go_at_call 45; refine (L8.out _ (H.out.below (B := w.heap.size) (by first | exact Below.refl _ _ | (go_grown; done) | exact bdrewN (by go_grown) _) (Nat.le_refl _))).mono ?_; rintro e w1 ⟨rfl, hb1⟩; obtain ⟨B1, hz1, q1, s1, t1, x1, y1, z1⟩ := bkeep (w := w) [w.heap.size, w.heap.size + 1, w.heap.size + 1 + 1] (by first | (simp; done) | (simp; omega)) (by first | (go_grown; done) | exact bdrewN (by go_grown) _) hb1; (try simp at hz1); clear hb1)
      | (go_at_call 59; refine (RV.out _).mono ?_; rintro e w2 ⟨rfl, hb2⟩; obtain ⟨B2, hz2, q2, s2, t2, x2, y2, z2⟩ := bkeep (w := w) [w.heap.size, w.heap.size + 1, w.heap.size + 1 + 1] (by first | (simp; done) | (simp; omega)) (by first | (go_grown; done) | exact bdrewN (by go_grown) _) hb2; (try simp at hz2); clear hb2))
      all_goals refine bodyPost_ret (by simp [results, Try.results21, go_sem, *] <;> rfl) rfl ?_
      all_goals exact ⟨by rw [EE.out, EV.out], by first | exact (by first | with_reducible exact B3 | (go_grown; done) | with_reducible exact bdrewN B3 _ | (go_grown <;> first | with_reducible exact bdrewN B3 _ | with_reducible exact B3)) | exact (by first | with_reducible exact B2 | (go_grown; done) | with_reducible exact bdrewN B2 _ | (go_grown <;> first | with_reducible exact bdrewN B2 _ | with_reducible exact B2)) | exact (by first | with_reducible exact B1 | (go_grown; done) | with_reducible exact bdrewN B1 _ | (go_grown <;> first | with_reducible exact bdrewN B1 _ | with_reducible exact B1))⟩
  rcases Bool.eq_false_or_eq_true (alB si si') with ha | ha
  · have L8 := Lib.hid (show ∀ w, ProfAt w A1 c1 A2 c2 ds ss → Calls Try.prog 45 #[profV A1 ds.length c1 A2 ss.length c2, .int .i64 src, dirV co si hy, dirV co' si' hy', .int .i64 n] w fun e w' => e = .returned (.int .i64 0) ∧ Below w.heap.size w w' from fun w h => by have q := l08Code_any A1 A2 c1 c2 ds ss src co si hy co' si' hy' n w h; rw [(l8_ok hc ha)] at q; exact q)
    rcases Bool.eq_false_or_eq_true (rcB ds.length knot dist) with hr | hr
    · have RV := Lib.hid (show ∀ w, Calls Try.prog 59 #[profV A1 ds.length c1 A2 ss.length c2, .int .i64 knot, .int .i64 dist] w fun e w' => e = .returned (.bool true) ∧ Below w.heap.size w w' from fun w => by have q := l08Target_any A1 A2 ds.length ss.length c1 c2 knot dist w hnl; rw [hr] at q; exact q)
      obtain ⟨r, r', m, rfl, hm⟩ := ce_zero hc
      have ee := cve_ok hc hr ha
      have hs := al_eq ha
      have EE := Lib.hid ee.1; have EV := Lib.hid ee.2; clear ee
      have RR := Lib.hid r; have RQ := Lib.hid r'; have HS := Lib.hid hs; have HC := Lib.hid hc; clear r r' hs hc
      go_enter Try.func21, Try.ntmps21
      go_wp2_with fail
      (refine (L8.out _ (H.out.below (B := w.heap.size) (by first | exact Below.refl _ _ | (go_grown; done) | exact bdrewN (by go_grown) _) (Nat.le_refl _))).mono ?_; rintro e w1 ⟨rfl, hb1⟩; obtain ⟨B1, hz1, q1, s1, t1, x1, y1, z1⟩ := bkeep (w := w) [w.heap.size, w.heap.size + 1, w.heap.size + 1 + 1] (by first | (simp; done) | (simp; omega)) (by first | (go_grown; done) | exact bdrewN (by go_grown) _) hb1; (try simp at hz1); clear hb1)
      go_wp2_with fail
      (refine (RV.out _).mono ?_; rintro e w2 ⟨rfl, hb2⟩; obtain ⟨B2, hz2, q2, s2, t2, x2, y2, z2⟩ := bkeep (w := w) [w.heap.size, w.heap.size + 1, w.heap.size + 1 + 1] (by first | (simp; done) | (simp; omega)) (by first | (go_grown; done) | exact bdrewN (by go_grown) _) hb2; (try simp at hz2); clear hb2)
      go_wp2_with fail
      refine (l08Trace_any A1 A2 c1 c2 ds ss src co si hy co' si' hy' m _ (H.out.below (B := w.heap.size) (by first | exact Below.refl _ _ | (go_grown; done) | exact bdrewN (by go_grown) _) (Nat.le_refl _)) RR.out RQ.out HS.out hm).mono ?_
      rintro e w3 ⟨rfl, hb3⟩
      obtain ⟨B3, hz3, q3, s3, t3, x3, y3, z3⟩ := bkeep (w := w) [w.heap.size, w.heap.size + 1, w.heap.size + 1 + 1] (by first | (simp; done) | (simp; omega)) (by first | (go_grown; done) | exact bdrewN (by go_grown) _) hb3; (try simp at hz3); clear hb3
      go_wp2_with fail
      refine (l08Verdict_any _ _ _ _ _ knot dist _).mono ?_
      rintro e w4 ⟨rfl, hb4⟩
      obtain ⟨B4, hz4, q4, s4, t4, x4, y4, z4⟩ := bkeep (w := w) [w.heap.size, w.heap.size + 1, w.heap.size + 1 + 1] (by first | (simp; done) | (simp; omega)) (by first | (go_grown; done) | exact bdrewN (by go_grown) _) hb4; (try simp at hz4); clear hb4
      go_wp2
      refine bodyPost_ret (by simp [results, Try.results21, go_sem, *] <;> rfl) rfl ?_
      exact ⟨by rw [EE.out, EV.out] <;> rfl, (by first | with_reducible exact B4 | (go_grown; done) | with_reducible exact bdrewN B4 _ | (go_grown <;> first | with_reducible exact bdrewN B4 _ | with_reducible exact B4))⟩
    · have ee := cve_far hc hr
      have RV := Lib.hid (show ∀ w, Calls Try.prog 59 #[profV A1 ds.length c1 A2 ss.length c2, .int .i64 knot, .int .i64 dist] w fun e w' => e = .returned (.bool false) ∧ Below w.heap.size w w' from fun w => by have q := l08Target_any A1 A2 ds.length ss.length c1 c2 knot dist w hnl; rw [hr] at q; exact q)
      have EE := Lib.hid ee.1; have EV := Lib.hid ee.2; clear ee
      go_enter Try.func21, Try.ntmps21
      go_wp2_with (first
      | (go_at_call 45; refine (L8.out _ (H.out.below (B := w.heap.size) (by first | exact Below.refl _ _ | (go_grown; done) | exact bdrewN (by go_grown) _) (Nat.le_refl _))).mono ?_; rintro e w1 ⟨rfl, hb1⟩; obtain ⟨B1, hz1, q1, s1, t1, x1, y1, z1⟩ := bkeep (w := w) [w.heap.size, w.heap.size + 1, w.heap.size + 1 + 1] (by first | (simp; done) | (simp; omega)) (by first | (go_grown; done) | exact bdrewN (by go_grown) _) hb1; (try simp at hz1); clear hb1)
      | (go_at_call 59; refine (RV.out _).mono ?_; rintro e w2 ⟨rfl, hb2⟩; obtain ⟨B2, hz2, q2, s2, t2, x2, y2, z2⟩ := bkeep (w := w) [w.heap.size, w.heap.size + 1, w.heap.size + 1 + 1] (by first | (simp; done) | (simp; omega)) (by first | (go_grown; done) | exact bdrewN (by go_grown) _) hb2; (try simp at hz2); clear hb2))
      all_goals refine bodyPost_ret (by simp [results, Try.results21, go_sem, *] <;> rfl) rfl ?_
      all_goals exact ⟨by rw [EE.out, EV.out], by first | exact (by first | with_reducible exact B3 | (go_grown; done) | with_reducible exact bdrewN B3 _ | (go_grown <;> first | with_reducible exact bdrewN B3 _ | with_reducible exact B3)) | exact (by first | with_reducible exact B2 | (go_grown; done) | with_reducible exact bdrewN B2 _ | (go_grown <;> first | with_reducible exact bdrewN B2 _ | with_reducible exact B2)) | exact (by first | with_reducible exact B1 | (go_grown; done) | with_reducible exact bdrewN B1 _ | (go_grown <;> first | with_reducible exact bdrewN B1 _ | with_reducible exact B1))⟩
  · have L8 := Lib.hid (show ∀ w, ProfAt w A1 c1 A2 c2 ds ss → Calls Try.prog 45 #[profV A1 ds.length c1 A2 ss.length c2, .int .i64 src, dirV co si hy, dirV co' si' hy', .int .i64 n] w fun e w' => e = .returned (.int .i64 5) ∧ Below w.heap.size w w' from fun w h => by have q := l08Code_any A1 A2 c1 c2 ds ss src co si hy co' si' hy' n w h; rw [(cr_unlike hc ha).2.2.2] at q; exact q)
    rcases Bool.eq_false_or_eq_true (rcB ds.length knot dist) with hr | hr
    · have ee := cve_unlike hc hr ha
      have RV := Lib.hid (show ∀ w, Calls Try.prog 59 #[profV A1 ds.length c1 A2 ss.length c2, .int .i64 knot, .int .i64 dist] w fun e w' => e = .returned (.bool true) ∧ Below w.heap.size w w' from fun w => by have q := l08Target_any A1 A2 ds.length ss.length c1 c2 knot dist w hnl; rw [hr] at q; exact q)
      have EE := Lib.hid ee.1; have EV := Lib.hid ee.2; clear ee
      go_enter Try.func21, Try.ntmps21
      go_wp2_with (first
      | (go_at_call 45; refine (L8.out _ (H.out.below (B := w.heap.size) (by first | exact Below.refl _ _ | (go_grown; done) | exact bdrewN (by go_grown) _) (Nat.le_refl _))).mono ?_; rintro e w1 ⟨rfl, hb1⟩; obtain ⟨B1, hz1, q1, s1, t1, x1, y1, z1⟩ := bkeep (w := w) [w.heap.size, w.heap.size + 1, w.heap.size + 1 + 1] (by first | (simp; done) | (simp; omega)) (by first | (go_grown; done) | exact bdrewN (by go_grown) _) hb1; (try simp at hz1); clear hb1)
      | (go_at_call 59; refine (RV.out _).mono ?_; rintro e w2 ⟨rfl, hb2⟩; obtain ⟨B2, hz2, q2, s2, t2, x2, y2, z2⟩ := bkeep (w := w) [w.heap.size, w.heap.size + 1, w.heap.size + 1 + 1] (by first | (simp; done) | (simp; omega)) (by first | (go_grown; done) | exact bdrewN (by go_grown) _) hb2; (try simp at hz2); clear hb2))
      all_goals refine bodyPost_ret (by simp [results, Try.results21, go_sem, *] <;> rfl) rfl ?_
      all_goals exact ⟨by rw [EE.out, EV.out], by first | exact (by first | with_reducible exact B3 | (go_grown; done) | with_reducible exact bdrewN B3 _ | (go_grown <;> first | with_reducible exact bdrewN B3 _ | with_reducible exact B3)) | exact (by first | with_reducible exact B2 | (go_grown; done) | with_reducible exact bdrewN B2 _ | (go_grown <;> first | with_reducible exact bdrewN B2 _ | with_reducible exact B2)) | exact (by first | with_reducible exact B1 | (go_grown; done) | with_reducible exact bdrewN B1 _ | (go_grown <;> first | with_reducible exact bdrewN B1 _ | with_reducible exact B1))⟩
    · have ee := cve_far hc hr
      have RV := Lib.hid (show ∀ w, Calls Try.prog 59 #[profV A1 ds.length c1 A2 ss.length c2, .int .i64 knot, .int .i64 dist] w fun e w' => e = .returned (.bool false) ∧ Below w.heap.size w w' from fun w => by have q := l08Target_any A1 A2 ds.length ss.length c1 c2 knot dist w hnl; rw [hr] at q; exact q)
      have EE := Lib.hid ee.1; have EV := Lib.hid ee.2; clear ee
      go_enter Try.func21, Try.ntmps21
      go_wp2_with (first
      | (go_at_call 45; refine (L8.out _ (H.out.below (B := w.heap.size) (by first | exact Below.refl _ _ | (go_grown; done) | exact bdrewN (by go_grown) _) (Nat.le_refl _))).mono ?_; rintro e w1 ⟨rfl, hb1⟩; obtain ⟨B1, hz1, q1, s1, t1, x1, y1, z1⟩ := bkeep (w := w) [w.heap.size, w.heap.size + 1, w.heap.size + 1 + 1] (by first | (simp; done) | (simp; omega)) (by first | (go_grown; done) | exact bdrewN (by go_grown) _) hb1; (try simp at hz1); clear hb1)
      | (go_at_call 59; refine (RV.out _).mono ?_; rintro e w2 ⟨rfl, hb2⟩; obtain ⟨B2, hz2, q2, s2, t2, x2, y2, z2⟩ := bkeep (w := w) [w.heap.size, w.heap.size + 1, w.heap.size + 1 + 1] (by first | (simp; done) | (simp; omega)) (by first | (go_grown; done) | exact bdrewN (by go_grown) _) hb2; (try simp at hz2); clear hb2))
      all_goals refine bodyPost_ret (by simp [results, Try.results21, go_sem, *] <;> rfl) rfl ?_
      all_goals exact ⟨by rw [EE.out, EV.out], by first | exact (by first | with_reducible exact B3 | (go_grown; done) | with_reducible exact bdrewN B3 _ | (go_grown <;> first | with_reducible exact bdrewN B3 _ | with_reducible exact B3)) | exact (by first | with_reducible exact B2 | (go_grown; done) | with_reducible exact bdrewN B2 _ | (go_grown <;> first | with_reducible exact bdrewN B2 _ | with_reducible exact B2)) | exact (by first | with_reducible exact B1 | (go_grown; done) | with_reducible exact bdrewN B1 _ | (go_grown <;> first | with_reducible exact bdrewN B1 _ | with_reducible exact B1))⟩
end

section
set_option linter.unusedSimpArgs false
set_option linter.unusedVariables false
open Go.RowKit

theorem ce_comm (ds ss : List Int) (src co si hy co' si' hy' n : Int) : ceE ds ss src co' si' hy' co si hy n = ceE ds ss src co si hy co' si' hy' n := by
  unfold ceE
  cases profB ds ss <;> cases dirB co si hy <;> cases dirB co' si' hy' <;> rfl
theorem al_comm (si si' : Int) : alB si' si = alB si si' := by unfold alB; cases decide (0 < si) <;> cases decide (0 < si') <;> rfl
theorem cvE_comm (ds ss : List Int) (src co si hy co' si' hy' n knot dist : Int) : cvE ds ss src co' si' hy' co si hy n knot dist = cvE ds ss src co si hy co' si' hy' n knot dist := by
  unfold cvE; rw [ce_comm ds ss src co si hy co' si' hy' n, al_comm si si']
theorem cvE_al {ds ss : List Int} {src co si hy co' si' hy' n knot dist : Int} (h : cvE ds ss src co si hy co' si' hy' n knot dist = 0) : alB si si' = true := by
  unfold cvE at h
  cases ha : alB si si'
  · rw [ha] at h; split at h
    · split at h <;> exact absurd h (by decide)
    · rename_i h2; exact absurd h h2
  · rfl
theorem cvV_comm (ds ss : List Int) (src co si hy co' si' hy' n knot dist : Int) : cvV ds ss src co' si' hy' co si hy n knot dist = cvV ds ss src co si hy co' si' hy' n knot dist := by
  unfold cvV
  rw [cvE_comm ds ss src co si hy co' si' hy' n knot dist]
  by_cases h : cvE ds ss src co si hy co' si' hy' n knot dist = 0
  · rw [if_pos h, if_pos h]
    exact (cv_comm (al_eq (cvE_al h)) _ _ _).symm
  · rw [if_neg h, if_neg h]
theorem cr_zero {ds ss : List Int} {src co si hy co' si' hy' n : Int} (h : crE ds ss src co si hy co' si' hy' n = 0) : RayOk ds ss src co si hy ∧ RayOk ds ss src co' si' hy' ∧ ∃ m : Nat, n = m ∧ m ≤ 100 ∧ sameN ds ss src co si hy co' si' hy' m = true ∧ crL ds ss src co si hy co' si' hy' n = clLo ds ss src co si hy co' si' hy' m ∧ crH ds ss src co si hy co' si' hy' n = clHi ds ss src co si hy co' si' hy' m ∧ ceE ds ss src co si hy co' si' hy' n = 0 ∧ alB si si' = true := by
  have g := h
  unfold crE at h
  split at h
  · rename_i hc
    obtain ⟨r, r', m, rfl, hm⟩ := ce_zero hc
    cases ha : alB si si'
    · rw [ha] at h; simp at h
    · rw [ha, if_pos rfl, Int.toNat_natCast] at h
      cases hs : sameN ds ss src co si hy co' si' hy' m
      · rw [hs] at h; simp at h
      · obtain ⟨-, e1, e2⟩ := cr_ok hc ha hs
        exact ⟨r, r', m, rfl, hm, hs, e1, e2, hc, rfl⟩
  · rename_i hc; exact absurd h hc
theorem tr_zero {ds ss : List Int} {src co si hy : Int} (r : RayOk ds ss src co si hy) {m : Nat} (hm : m ≤ 100) : trCo ds ss src co si hy m = 0 ∧ trX ds ss src co si hy m = rwAt ds ss src co si hy m := by
  have e : trCo ds ss src co si hy m = 0 := (trCo_in (rayE_zero (k := 0) r) hm).trans (no_limit r m hm).1
  exact ⟨e, (trX_ok e).trans (no_limit r m hm).2⟩
set_option maxHeartbeats 1000000 in
theorem inside9_yes (a b c d : Int) (w : World) (h1 : c ≤ a) (h2 : b ≤ d) :
    Calls Try.prog 39 #[ivV a b, ivV c d] w fun e w' => e = .returned (.bool true) ∧ Below w.heap.size w w' := by
  have g1 : decide (c ≤ a) = true := decide_eq_true h1
  have g2 : decide (b ≤ d) = true := decide_eq_true h2
  go_enter Try.func39, Try.ntmps39
  go_wp2
  all_goals go_ret
  all_goals exact ⟨ret_bool (by first | rfl | (simp; done) | (simp; omega)), by go_grown⟩
set_option maxRecDepth 100000 in
set_option maxHeartbeats 16000000 in
theorem lawCells_any (A : Option Addr) (c : Nat) (xs : List Int) (w : World) (h : BytesAt w A c xs) :
    Calls Try.prog 10 #[.slice A xs.length c] w fun e w' => e = .returned (.bool true) ∧ Below w.heap.size w w' := by
  have hn := Nat.le_trans h.1 h.2.1
  have H := Lib.hid h; clear h
  by_cases hbig : (4096 : Int) < xs.length
  · go_enter Try.func10, Try.ntmps10
    go_wp2_with (go_at_call 25; refine (big_any _ _ _ _ hn).mono ?_; rintro e w' ⟨rfl, rfl⟩)
    go_ret
    exact ⟨rfl, Below.refl _ _⟩
  · go_enter Try.func10, Try.ntmps10
    go_wp2_with (go_at_call 25; refine (big_any _ _ _ _ hn).mono ?_; rintro e w' ⟨rfl, rfl⟩)
    refine (drawCellVerdict_any A c xs _ H.out).mono ?_
    rintro e w3 ⟨⟨A1, c1, A2, c2, ts, ls, src, co, si, hy, co', si', hy', n, knot, dist, rfl, rp⟩, hb3⟩
    have P := Lib.hid rp.at; clear rp
    have HX := Lib.hid (H.out.below hb3 (Nat.le_refl _))
    have B3 := Lib.hid hb3; clear hb3
    obtain ⟨v, hv⟩ : ∃ x, cvV ts ls src co si hy co' si' hy' n knot dist = x := ⟨_, rfl⟩
    obtain ⟨b, hb⟩ : ∃ x, cvE ts ls src co si hy co' si' hy' n knot dist = x := ⟨_, rfl⟩
    obtain ⟨zl, hzl⟩ : ∃ x, crL ts ls src co si hy co' si' hy' n = x := ⟨_, rfl⟩
    obtain ⟨zh, hzh⟩ : ∃ x, crH ts ls src co si hy co' si' hy' n = x := ⟨_, rfl⟩
    obtain ⟨rr, hrr⟩ : ∃ x, crE ts ls src co si hy co' si' hy' n = x := ⟨_, rfl⟩
    have V1 := Lib.hid (show ∀ w, ProfAt w A1 c1 A2 c2 ts ls → Calls Try.prog 22 #[profV A1 ts.length c1 A2 ls.length c2, .int .i64 src, dirV co si hy, dirV co' si' hy', .int .i64 n, .int .i64 knot, .int .i64 dist] w fun e w' => e = .returned (.tuple #[.int .i64 v, .int .i64 b]) ∧ Below w.heap.size w w' from fun w h => by have q := implCellVerdict_any A1 A2 c1 c2 ts ls src co si hy co' si' hy' n knot dist w h; rw [hv, hb] at q; exact q)
    have V2 := Lib.hid (show ∀ w, ProfAt w A1 c1 A2 c2 ts ls → Calls Try.prog 21 #[profV A1 ts.length c1 A2 ls.length c2, .int .i64 src, dirV co si hy, dirV co' si' hy', .int .i64 n, .int .i64 knot, .int .i64 dist] w fun e w' => e = .returned (.tuple #[.int .i64 v, .int .i64 b]) ∧ Below w.heap.size w w' from fun w h => by have q := specCellVerdict_any A1 A2 c1 c2 ts ls src co si hy co' si' hy' n knot dist w h; rw [hv, hb] at q; exact q)
    have V3 := Lib.hid (show ∀ w, ProfAt w A1 c1 A2 c2 ts ls → Calls Try.prog 22 #[profV A1 ts.length c1 A2 ls.length c2, .int .i64 src, dirV co' si' hy', dirV co si hy, .int .i64 n, .int .i64 knot, .int .i64 dist] w fun e w' => e = .returned (.tuple #[.int .i64 v, .int .i64 b]) ∧ Below w.heap.size w w' from fun w h => by have q := implCellVerdict_any A1 A2 c1 c2 ts ls src co' si' hy' co si hy n knot dist w h; rw [cvV_comm ts ls src co si hy co' si' hy' n knot dist, cvE_comm ts ls src co si hy co' si' hy' n knot dist, hv, hb] at q; exact q)
    have R1_ := Lib.hid (show ∀ w, ProfAt w A1 c1 A2 c2 ts ls → Calls Try.prog 16 #[profV A1 ts.length c1 A2 ls.length c2, .int .i64 src, dirV co si hy, dirV co' si' hy', .int .i64 n] w fun e w' => e = .returned (.tuple #[ivV zl zh, .int .i64 rr]) ∧ Below w.heap.size w w' from fun w h => by have q := implCellRange_any A1 A2 c1 c2 ts ls src co si hy co' si' hy' n w h; rw [hzl, hzh, hrr] at q; exact q)
    have R2_ := Lib.hid (show ∀ w, ProfAt w A1 c1 A2 c2 ts ls → Calls Try.prog 13 #[profV A1 ts.length c1 A2 ls.length c2, .int .i64 src, dirV co si hy, dirV co' si' hy', .int .i64 n] w fun e w' => e = .returned (.tuple #[ivV zl zh, .int .i64 rr]) ∧ Below w.heap.size w w' from fun w h => by have q := specCellRange_any A1 A2 c1 c2 ts ls src co si hy co' si' hy' n w h; rw [hzl, hzh, hrr] at q; exact q)
    have HV := Lib.hid hv; have HBb := Lib.hid hb; have ZL := Lib.hid hzl; have ZH := Lib.hid hzh; have ZR := Lib.hid hrr; clear hv hb hzl hzh hrr
    go_wp2_with fail
    refine (V1.out _ (P.out.below (B := w3.heap.size) (by first | exact Below.refl _ _ | (go_grown; done) | exact bdrewN (by go_grown) _) (Nat.le_refl _))).mono ?_
    rintro e w4 ⟨rfl, hb4⟩
    have P := Lib.hid (((P.out).below (B := w3.heap.size) (by first | exact Below.refl _ _ | (go_grown; done) | exact bdrewN (by go_grown) _) (Nat.le_refl _)).below hb4 (Nat.le_refl _))
    obtain ⟨B4, hz4, q4, s4, t4, x4, y4, z4⟩ := bkeep (w := w3) [w3.heap.size, w3.heap.size + 1, w3.heap.size + 1 + 1] (by first | (simp; done) | (simp; omega)) (by first | (go_grown; done) | exact bdrewN (by go_grown) _) hb4; (try simp at hz4); clear hb4
    go_wp2_with fail
    refine (V2.out _ (P.out.below (B := w4.heap.size) (by first | exact Below.refl _ _ | (go_grown; done) | exact bdrewN (by go_grown) _) (Nat.le_refl _))).mono ?_
    rintro e w5 ⟨rfl, hb5⟩
    have P := Lib.hid (((P.out).below (B := w4.heap.size) (by first | exact Below.refl _ _ | (go_grown; done) | exact bdrewN (by go_grown) _) (Nat.le_refl _)).below hb5 (Nat.le_refl _))
    obtain ⟨B5, hz5, q5, s5, t5, x5, y5, z5⟩ := bkeep (w := w3) [w3.heap.size, w3.heap.size + 1, w3.heap.size + 1 + 1] (by first | (simp; done) | (simp; omega)) (by first | (go_grown; done) | exact bdrewN (by go_grown) _) hb5; (try simp at hz5); clear hb5
    go_wp2_with fail
    refine (R1_.out _ (P.out.below (B := w5.heap.size) (by first | exact Below.refl _ _ | (go_grown; done) | exact bdrewN (by go_grown) _) (Nat.le_refl _))).mono ?_
    rintro e w6 ⟨rfl, hb6⟩
    have P := Lib.hid (((P.out).below (B := w5.heap.size) (by first | exact Below.refl _ _ | (go_grown; done) | exact bdrewN (by go_grown) _) (Nat.le_refl _)).below hb6 (Nat.le_refl _))
    obtain ⟨B6, hz6, q6, s6, t6, x6, y6, z6⟩ := bkeep (w := w3) [w3.heap.size, w3.heap.size + 1, w3.heap.size + 1 + 1] (by first | (simp; done) | (simp; omega)) (by first | (go_grown; done) | exact bdrewN (by go_grown) _) hb6; (try simp at hz6); clear hb6
    go_wp2_with fail
    refine (R2_.out _ (P.out.below (B := w6.heap.size) (by first | exact Below.refl _ _ | (go_grown; done) | exact bdrewN (by go_grown) _) (Nat.le_refl _))).mono ?_
    rintro e w7 ⟨rfl, hb7⟩
    have P := Lib.hid (((P.out).below (B := w6.heap.size) (by first | exact Below.refl _ _ | (go_grown; done) | exact bdrewN (by go_grown) _) (Nat.le_refl _)).below hb7 (Nat.le_refl _))
    obtain ⟨B7, hz7, q7, s7, t7, x7, y7, z7⟩ := bkeep (w := w3) [w3.heap.size, w3.heap.size + 1, w3.heap.size + 1 + 1, w6.heap.size] (by first | (simp; done) | (simp; omega)) (by first | (go_grown; done) | exact bdrewN (by go_grown) _) hb7; (try simp at hz7); clear hb7
    go_wp2_with fail
    refine (V3.out _ (P.out.below (B := w7.heap.size) (by first | exact Below.refl _ _ | (go_grown; done) | exact bdrewN (by go_grown) _) (Nat.le_refl _))).mono ?_
    rintro e w8 ⟨rfl, hb8⟩
    have P := Lib.hid (((P.out).below (B := w7.heap.size) (by first | exact Below.refl _ _ | (go_grown; done) | exact bdrewN (by go_grown) _) (Nat.le_refl _)).below hb8 (Nat.le_refl _))
    obtain ⟨B8, hz8, q8, s8, t8, x8, y8, z8⟩ := bkeep (w := w3) [w3.heap.size, w3.heap.size + 1, w3.heap.size + 1 + 1, w6.heap.size, w7.heap.size] (by first | (simp; done) | (simp; omega)) (by first | (go_grown; done) | exact bdrewN (by go_grown) _) hb8; (try simp at hz8); clear hb8
    by_cases hb0 : b = 0
    rotate_left
    · have hb1 : (b != 0) = true := by simpa using hb0
      go_wp2
      go_ret
      exact ⟨rfl, B3.out.trans (Below.mono (show Below w3.heap.size w3 _ by first | exact B8 | (go_grown; done) | exact bdrewN B8 _ | exact bdrewN (by go_grown) _ | (go_grown <;> exact bdrewN B8 _)) B3.out.size)⟩
    by_cases hr0 : rr = 0
    rotate_left
    · have hr1 : (rr != 0) = true := by simpa using hr0
      subst hb0
      go_wp2
      go_ret
      exact ⟨rfl, B3.out.trans (Below.mono (show Below w3.heap.size w3 _ by first | exact B8 | (go_grown; done) | exact bdrewN B8 _ | exact bdrewN (by go_grown) _ | (go_grown <;> exact bdrewN B8 _)) B3.out.size)⟩
    subst hb0
    subst hr0
    obtain ⟨r, r', m, rfl, hm, hs, e1, e2, hce, hal⟩ := cr_zero ZR.out
    rw [ZL.out] at e1; rw [ZH.out] at e2
    obtain ⟨i1, i2, i3, i4⟩ := end_in (ds := ts) (ss := ls) (src := src) (co := co) (si := si) (hy := hy) (co' := co') (si' := si') (hy' := hy') m
    rw [← e1] at i1 i3; rw [← e2] at i2 i4
    have hcv : cvI ts ls src co si hy co' si' hy' m knot dist = v := by have q := HV.out; unfold cvV at q; rwa [if_pos HBb.out, Int.toNat_natCast] at q
    obtain ⟨t1, x1⟩ := tr_zero r hm
    obtain ⟨t2, x2⟩ := tr_zero r' hm
    obtain ⟨xk, xd, xl, xh, hx⟩ := rs_cell (rwAt ts ls src co si hy m)
    obtain ⟨yk, yd, yl, yh, hy_⟩ := rs_cell (rwAt ts ls src co' si' hy' m)
    rw [hx] at i1 i2 x1; rw [hy_] at i3 i4 x2
    dsimp only at i1 i2 i3 i4
    have CT := Lib.hid (show v = 2 → xk = knot ∧ ((xh < dist ∧ dist < yl) ∨ (yh < dist ∧ dist < xl)) from fun e => by have q := cv_two (hcv.trans e); rw [hx, hy_] at q; exact q)
    have T1 := Lib.hid (show ∀ w, ProfAt w A1 c1 A2 c2 ts ls → Calls Try.prog 38 #[profV A1 ts.length c1 A2 ls.length c2, .int .i64 src, dirV co si hy, .int .i64 (m : Int)] w fun e w' => (∃ A' k' c', e = .returned (.tuple #[.slice A' k' c', rsV xk xd xl xh, .int .i64 0])) ∧ Below w.heap.size w w' from fun w h => by have q := implTraceRay_any A1 A2 c1 c2 ts ls src co si hy m w h; rw [x1, t1] at q; exact q.mono fun e w' ⟨⟨A', c', he, _⟩, hb⟩ => ⟨⟨A', _, c', he⟩, hb⟩)
    have T2 := Lib.hid (show ∀ w, ProfAt w A1 c1 A2 c2 ts ls → Calls Try.prog 38 #[profV A1 ts.length c1 A2 ls.length c2, .int .i64 src, dirV co' si' hy', .int .i64 (m : Int)] w fun e w' => (∃ A' k' c', e = .returned (.tuple #[.slice A' k' c', rsV yk yd yl yh, .int .i64 0])) ∧ Below w.heap.size w w' from fun w h => by have q := implTraceRay_any A1 A2 c1 c2 ts ls src co' si' hy' m w h; rw [x2, t2] at q; exact q.mono fun e w' ⟨⟨A', c', he, _⟩, hb⟩ => ⟨⟨A', _, c', he⟩, hb⟩)
    clear r r' hs e1 e2 hce hal hcv t1 x1 t2 x2 hx hy_
    go_wp2_with fail
    refine (T1.out _ (P.out.below (B := w8.heap.size) (by first | exact Below.refl _ _ | (go_grown; done) | exact bdrewN (by go_grown) _) (Nat.le_refl _))).mono ?_
    rintro e w9 ⟨⟨Ae, ke, ce, rfl⟩, hb9⟩
    have P := Lib.hid (((P.out).below (B := w8.heap.size) (by first | exact Below.refl _ _ | (go_grown; done) | exact bdrewN (by go_grown) _) (Nat.le_refl _)).below hb9 (Nat.le_refl _))
    obtain ⟨B9, hz9, q9, s9, t9, x9, y9, z9⟩ := bkeep (w := w3) [w3.heap.size, w3.heap.size + 1, w3.heap.size + 1 + 1, w6.heap.size, w7.heap.size] (by first | (simp; done) | (simp; omega)) (by first | (go_grown; done) | exact bdrewN (by go_grown) _) hb9; (try simp at hz9); clear hb9
    go_wp2_with fail
    refine (T2.out _ (P.out.below (B := w9.heap.size) (by first | exact Below.refl _ _ | (go_grown; done) | exact bdrewN (by go_grown) _) (Nat.le_refl _))).mono ?_
    rintro e w10 ⟨⟨Ag, kg, cg, rfl⟩, hb10⟩
    have P := Lib.hid (((P.out).below (B := w9.heap.size) (by first | exact Below.refl _ _ | (go_grown; done) | exact bdrewN (by go_grown) _) (Nat.le_refl _)).below hb10 (Nat.le_refl _))
    obtain ⟨B10, hz10, q10, s10, t10, x10, y10, z10⟩ := bkeep (w := w3) [w3.heap.size, w3.heap.size + 1, w3.heap.size + 1 + 1, w6.heap.size, w7.heap.size, w9.heap.size] (by first | (simp; done) | (simp; omega)) (by first | (go_grown; done) | exact bdrewN (by go_grown) _) hb10; (try simp at hz10); clear hb10
    go_upto_region 17 with (go_at_call 39; refine (inside9_yes _ _ _ _ _ (by omega) (by omega)).mono ?_; rintro e w11 ⟨rfl, hb11⟩; obtain ⟨B11, hz11, q11, s11, t11, x11, y11, z11⟩ := bkeep (w := w3) [w3.heap.size, w3.heap.size + 1, w3.heap.size + 1 + 1, w6.heap.size, w9.heap.size, w10.heap.size] (by first | (simp; done) | (simp; omega)) (by first | (go_grown; done) | exact bdrewN (by go_grown) _) hb11; (try simp at hz11); clear hb11)
    by_cases h2 : v = 2
    · obtain ⟨k1, k2⟩ := CT.out h2
      subst h2
      subst k1
      rcases k2 with ⟨k2, k3⟩ | ⟨k2, k3⟩
      · go_wp2
        all_goals go_ret
        all_goals exact ⟨ret_bool (by first | rfl | (simp; done) | (simp; omega)), B3.out.trans (Below.mono (show Below w3.heap.size w3 _ by first | exact B11 | (go_grown; done) | exact bdrewN B11 _ | exact bdrewN (by go_grown) _ | (go_grown <;> exact bdrewN B11 _)) B3.out.size)⟩
      · go_wp2
        all_goals go_ret
        all_goals exact ⟨ret_bool (by first | rfl | (simp; done) | (simp; omega)), B3.out.trans (Below.mono (show Below w3.heap.size w3 _ by first | exact B11 | (go_grown; done) | exact bdrewN B11 _ | exact bdrewN (by go_grown) _ | (go_grown <;> exact bdrewN B11 _)) B3.out.size)⟩
    · have h3 : (v != 2) = true := by simpa using h2
      go_wp2
      all_goals go_ret
      all_goals exact ⟨ret_bool (by first | rfl | (simp; done) | (simp; omega)), B3.out.trans (Below.mono (show Below w3.heap.size w3 _ by first | exact B11 | (go_grown; done) | exact bdrewN B11 _ | exact bdrewN (by go_grown) _ | (go_grown <;> exact bdrewN B11 _)) B3.out.size)⟩
end
end Go.Proofs.Ytopggkomkfjbfaa
