/- The draws of a ray and a knot. -/
import Derived.Test.YtkmlcjhlckoajaaDrawRay
namespace Go.Proofs.Ytkmlcjhlckoajaa
set_option linter.unusedSimpArgs false
set_option linter.unusedVariables false
open Go.RowKit

set_option maxRecDepth 100000 in
set_option maxHeartbeats 8000000 in
theorem drawCanCross_any (A : Option Addr) (c : Nat) (xs : List Int) (w : World) (h : BytesAt w A c xs) :
    Calls Try.prog 97 #[.slice A xs.length c] w fun e w' => (∃ A1 c1 A2 c2 ts ls k a b g z, e = .returned (.tuple #[profV A1 (List.length ts) c1 A2 (List.length ls) c2, .int .i64 k, dirV a b g, .int .i64 z]) ∧ ResP w' w.heap.size w'.heap.size A1 c1 A2 c2 ts ls) ∧ Below w.heap.size w w' := by
  have H := Lib.hid h; clear h
  go_enter Try.func97, Try.ntmps97
  go_wp2_with fail
  refine (l01From_any A c xs _ (H.out.below (B := w.heap.size) (by go_grown) (Nat.le_refl _))).mono ?_
  rintro e w3 ⟨rfl, s3, hb3⟩
  obtain ⟨T3, z3, q3, f3, x3, y3⟩ := lkeep (w := w) [w.heap.size, w.heap.size + 1] (by first | (simp; done) | (simp; omega)) (by go_grown) hb3
  simp only [World.size_alloc] at s3
  have hS3 := s3.lt
  have l3_0 := x3 (w.heap.size) (by simp)
  have l3_1 := x3 (w.heap.size + 1) (by simp)
  have SS := Lib.hid s3; have BB := Lib.hid T3; clear s3 T3 hb3
  go_upto_region 4 with (go_at_call 106; refine (l05DrawRay_any (w.heap.size + 1 + 1) A c xs _ (SS.out.keepS (by repeat' (first | with_reducible exact Keep.refl _ _ _ | with_reducible refine Keep.setB ?_ ?_ _ | with_reducible refine Keep.alloc ?_ ?_ _ | with_reducible refine Keep.drew ?_ | omega | (simp; done) | (simp; omega))))).mono ?_; rintro e w4 ⟨⟨A1, c1, A2, c2, ts, ls, kk, da, db, dg, rfl, rp, h1, h2⟩, s4', ch4⟩; have BB := Lib.hid ((show Below w.heap.size w _ from (by first | exact BB.out | (have hb_ := BB.out; go_grown; done) | (have hb_ := BB.out; exact bdrewN (by go_grown) _))).trans (ch4.below (by omega) (by first | omega | (simp; done) | (simp; omega)))); have SS := Lib.hid s4'; obtain ⟨z4, q4, f4, x4, y4⟩ := ckeepB [w.heap.size, w.heap.size + 1] (by first | (simp; done) | (simp; omega)) ch4; (try simp only [World.size_alloc, World.size_drew, size_set] at z4); clear s4' ch4; have l4_0 := x4 (w.heap.size) (by simp); have l4_1 := x4 (w.heap.size + 1) (by simp); have RP := Lib.hid rp; clear rp)
  obtain ⟨naa1, nab1, naa2, nab2, naa3, nab3, naa4, nab4⟩ : w.heap.size ≠ w4.heap.size ∧ w4.heap.size ≠ w.heap.size ∧ w.heap.size ≠ w4.heap.size + 1 ∧ w4.heap.size + 1 ≠ w.heap.size ∧ w.heap.size + 1 ≠ w4.heap.size ∧ w4.heap.size ≠ w.heap.size + 1 ∧ w.heap.size + 1 ≠ w4.heap.size + 1 ∧ w4.heap.size + 1 ≠ w.heap.size + 1 := by
    refine ⟨?_, ?_, ?_, ?_, ?_, ?_, ?_, ?_⟩ <;> omega
  have sA4_0 : (w.heap.size + 1 + 1) ≠ w4.heap.size := by omega
  have sB4_0 : w4.heap.size ≠ (w.heap.size + 1 + 1) := by omega
  have sC4_0 : (w.heap.size + 1 + 1) < w4.heap.size := by omega
  have sD4_0 : w.heap.size ≤ w4.heap.size := by omega
  have sA4_1 : (w.heap.size + 1 + 1) ≠ w4.heap.size + 1 := by omega
  have sB4_1 : w4.heap.size + 1 ≠ (w.heap.size + 1 + 1) := by omega
  have sC4_1 : (w.heap.size + 1 + 1) < w4.heap.size + 1 := by omega
  have sD4_1 : w.heap.size ≤ w4.heap.size + 1 := by omega
  refine genS (S := fun w' => w.heap.size < w'.heap.size ∧ w.heap.size + 1 < w'.heap.size ∧ w4.heap.size < w'.heap.size ∧ w4.heap.size + 1 < w'.heap.size ∧ w'.cell? ⟨w.heap.size, 0, none⟩ = some (.slice none 0 0) ∧ w'.cell? ⟨w.heap.size, 1, none⟩ = some (.slice none 0 0) ∧ w'.cell? ⟨w.heap.size + 1, 0, none⟩ = some (.int .i64 0) ∧ w'.cell? ⟨w.heap.size + 1, 1, none⟩ = some (.int .i64 0) ∧ w'.cell? ⟨w.heap.size + 1, 2, none⟩ = some (.int .i64 0) ∧ w'.cell? ⟨w4.heap.size, 0, none⟩ = some (.slice A1 (List.length ts) c1) ∧ w'.cell? ⟨w4.heap.size, 1, none⟩ = some (.slice A2 (List.length ls) c2) ∧ w'.cell? ⟨w4.heap.size + 1, 0, none⟩ = some (.int .i64 da) ∧ w'.cell? ⟨w4.heap.size + 1, 1, none⟩ = some (.int .i64 db) ∧ w'.cell? ⟨w4.heap.size + 1, 2, none⟩ = some (.int .i64 dg) ∧ (∀ o, w'.frozen? ⟨w.heap.size, o, none⟩ = false) ∧ (∀ o, w'.frozen? ⟨w.heap.size + 1, o, none⟩ = false) ∧ Below w.heap.size w w' ∧ SrcAt w' (w.heap.size + 1 + 1) A c xs ∧ ResP w' w3.heap.size w4.heap.size A1 c1 A2 c2 ts ls) ⟨by first | omega | (simp; done) | (simp; omega), by first | omega | (simp; done) | (simp; omega), by first | omega | (simp; done) | (simp; omega), by first | omega | (simp; done) | (simp; omega), by simp [*, go_sem], by simp [*, go_sem], by simp [*, go_sem], by simp [*, go_sem], by simp [*, go_sem], by simp [*, go_sem], by simp [*, go_sem], by simp [*, go_sem], by simp [*, go_sem], by simp [*, go_sem], fun o => by simp [*, go_sem], fun o => by simp [*, go_sem], (by first | exact BB.out | (have hb_ := BB.out; go_grown; done) | (have hb_ := BB.out; exact bdrewN (by go_grown) _)), SS.out.keepS (by repeat' (first | with_reducible exact Keep.refl _ _ _ | with_reducible refine Keep.setB ?_ ?_ _ | with_reducible refine Keep.alloc ?_ ?_ _ | with_reducible refine Keep.drew ?_ | omega | (simp; done) | (simp; omega))), RP.out.kept (by repeat' (first | with_reducible exact Keep.refl _ _ _ | with_reducible refine Keep.setB ?_ ?_ _ | with_reducible refine Keep.alloc ?_ ?_ _ | with_reducible refine Keep.drew ?_ | omega | (simp; done) | (simp; omega)))⟩ ?_
  clear z3 q3 f3 x3 y3 z4 q4 f4 x4 y4 l3_0 l3_1 l4_0 l4_1
  rintro w5 ⟨lt5_0, lt5_1, lt5_2, lt5_3, c5_0, c5_1, c5_2, c5_3, c5_4, c5_5, c5_6, c5_7, c5_8, c5_9, fz5_0, fz5_1, cc, ss, rr_RP⟩
  have BB := Lib.hid cc; have SS := Lib.hid ss; have RP := Lib.hid rr_RP; clear cc ss rr_RP
  have W0 : IntKind.i64.wrap ((ts.length : Int) + 1) = (ts.length : Int) + 1 := IntWalk.i64_in _ (by omega)
  go_region_held3 (fun w' => w'.cell? ⟨w4.heap.size, 0, none⟩ = some (.slice A1 (List.length ts) c1) ∧ w'.cell? ⟨w4.heap.size, 1, none⟩ = some (.slice A2 (List.length ls) c2) ∧ w'.cell? ⟨w4.heap.size + 1, 0, none⟩ = some (.int .i64 da) ∧ w'.cell? ⟨w4.heap.size + 1, 1, none⟩ = some (.int .i64 db) ∧ w'.cell? ⟨w4.heap.size + 1, 2, none⟩ = some (.int .i64 dg)) (first | (go_keep; done) | (simp [*, go_sem]; done))
    (first
      | (go_at_call 133; refine (l01Next_any (w.heap.size + 1 + 1) A c xs _ _ (SS.out.keepS (by repeat' (first | with_reducible exact Keep.refl _ _ _ | with_reducible refine Keep.setB ?_ ?_ _ | with_reducible refine Keep.alloc ?_ ?_ _ | with_reducible refine Keep.drew ?_ | omega | (simp; done) | (simp; omega))))).mono ?_; rintro e w6 ⟨⟨n6, rfl, n60, n61⟩, s6', ch6⟩; have BB := Lib.hid ((show Below w.heap.size w _ from (by first | exact BB.out | (have hb_ := BB.out; go_grown; done) | (have hb_ := BB.out; exact bdrewN (by go_grown) _))).trans (ch6.toB.below (by omega) (by first | omega | (simp; done) | (simp; omega)))); have RP := Lib.hid (RP.out.keepB (by repeat' (first | with_reducible exact Keep.refl _ _ _ | with_reducible refine Keep.setB ?_ ?_ _ | with_reducible refine Keep.alloc ?_ ?_ _ | with_reducible refine Keep.drew ?_ | omega | (simp; done) | (simp; omega))) ch6.toB (by omega) (by first | omega | (simp; done) | (simp; omega))); have SS := Lib.hid s6'; obtain ⟨z6, q6, f6, x6, y6⟩ := ckeepB [w.heap.size, w.heap.size + 1, w4.heap.size, w4.heap.size + 1] (by first | (simp; done) | (simp; omega)) ch6.toB; (try simp only [World.size_alloc, World.size_drew, size_set] at z6); clear s6' ch6; have l6_0 := x6 (w.heap.size) (by simp); have l6_1 := x6 (w.heap.size + 1) (by simp); have l6_2 := x6 (w4.heap.size) (by simp); have l6_3 := x6 (w4.heap.size + 1) (by simp))
      | (go_at_call 133; refine (l01Next_any (w.heap.size + 1 + 1) A c xs _ _ (SS.out.keepS (by repeat' (first | with_reducible exact Keep.refl _ _ _ | with_reducible refine Keep.setB ?_ ?_ _ | with_reducible refine Keep.alloc ?_ ?_ _ | with_reducible refine Keep.drew ?_ | omega | (simp; done) | (simp; omega))))).mono ?_; rintro e w7 ⟨⟨n7, rfl, n70, n71⟩, s7', ch7⟩; have BB := Lib.hid ((show Below w.heap.size w _ from (by first | exact BB.out | (have hb_ := BB.out; go_grown; done) | (have hb_ := BB.out; exact bdrewN (by go_grown) _))).trans (ch7.toB.below (by omega) (by first | omega | (simp; done) | (simp; omega)))); have RP := Lib.hid (RP.out.keepB (by repeat' (first | with_reducible exact Keep.refl _ _ _ | with_reducible refine Keep.setB ?_ ?_ _ | with_reducible refine Keep.alloc ?_ ?_ _ | with_reducible refine Keep.drew ?_ | omega | (simp; done) | (simp; omega))) ch7.toB (by omega) (by first | omega | (simp; done) | (simp; omega))); have SS := Lib.hid s7'; obtain ⟨z7, q7, f7, x7, y7⟩ := ckeepB [w.heap.size, w.heap.size + 1, w4.heap.size, w4.heap.size + 1] (by first | (simp; done) | (simp; omega)) ch7.toB; (try simp only [World.size_alloc, World.size_drew, size_set] at z7); clear s7' ch7; have l7_0 := x7 (w.heap.size) (by simp); have l7_1 := x7 (w.heap.size + 1) (by simp); have l7_2 := x7 (w4.heap.size) (by simp); have l7_3 := x7 (w4.heap.size + 1) (by simp)))
  all_goals go_wp2
  all_goals refine bodyPost_ret (by simp [results, Try.results97, go_sem, *] <;> rfl) rfl ?_
  all_goals exact ⟨⟨_, _, _, _, ts, ls, _, _, _, _, _, rfl, ResP.mono (RP.out.kept (by repeat' (first | with_reducible exact Keep.refl _ _ _ | with_reducible refine Keep.setB ?_ ?_ _ | with_reducible refine Keep.alloc ?_ ?_ _ | with_reducible refine Keep.drew ?_ | omega | (simp; done) | (simp; omega)))) (by first | omega | (simp; done) | (simp; omega)) (by first | omega | (simp; done) | (simp; omega))⟩, (by first | exact BB.out | (have hb_ := BB.out; go_grown; done) | (have hb_ := BB.out; exact bdrewN (by go_grown) _))⟩
set_option maxRecDepth 100000 in
set_option maxHeartbeats 8000000 in
theorem drawTurningSpeed_any (A : Option Addr) (c : Nat) (xs : List Int) (w : World) (h : BytesAt w A c xs) :
    Calls Try.prog 36 #[.slice A xs.length c] w fun e w' => (∃ A1 c1 A2 c2 ts ls k a b g, e = .returned (.tuple #[profV A1 (List.length ts) c1 A2 (List.length ls) c2, .int .i64 k, dirV a b g]) ∧ ResP w' w.heap.size w'.heap.size A1 c1 A2 c2 ts ls) ∧ Below w.heap.size w w' := by
  have H := Lib.hid h; clear h
  go_enter Try.func36, Try.ntmps36
  go_wp2_with fail
  refine (l01From_any A c xs _ (H.out.below (B := w.heap.size) (by go_grown) (Nat.le_refl _))).mono ?_
  rintro e w3 ⟨rfl, s3, hb3⟩
  obtain ⟨T3, z3, q3, f3, x3, y3⟩ := lkeep (w := w) [w.heap.size, w.heap.size + 1] (by first | (simp; done) | (simp; omega)) (by go_grown) hb3
  simp only [World.size_alloc] at s3
  have hS3 := s3.lt
  have l3_0 := x3 (w.heap.size) (by simp)
  have l3_1 := x3 (w.heap.size + 1) (by simp)
  have SS := Lib.hid s3; have BB := Lib.hid T3; clear s3 T3 hb3
  go_wp2_with (go_at_call 106; refine (l05DrawRay_any (w.heap.size + 1 + 1) A c xs _ (SS.out.keepS (by repeat' (first | with_reducible exact Keep.refl _ _ _ | with_reducible refine Keep.setB ?_ ?_ _ | with_reducible refine Keep.alloc ?_ ?_ _ | with_reducible refine Keep.drew ?_ | omega | (simp; done) | (simp; omega))))).mono ?_; rintro e w4 ⟨⟨A1, c1, A2, c2, ts, ls, kk, da, db, dg, rfl, rp, h1, h2⟩, s4', ch4⟩; have BB := Lib.hid ((show Below w.heap.size w _ from (by first | exact BB.out | (have hb_ := BB.out; go_grown; done) | (have hb_ := BB.out; exact bdrewN (by go_grown) _))).trans (ch4.below (by omega) (by first | omega | (simp; done) | (simp; omega)))); have SS := Lib.hid s4'; obtain ⟨z4, q4, f4, x4, y4⟩ := ckeepB [w.heap.size, w.heap.size + 1] (by first | (simp; done) | (simp; omega)) ch4; (try simp only [World.size_alloc, World.size_drew, size_set] at z4); clear s4' ch4; have l4_0 := x4 (w.heap.size) (by simp); have l4_1 := x4 (w.heap.size + 1) (by simp); have RP := Lib.hid rp; clear rp)
  all_goals refine bodyPost_ret (by simp [results, Try.results36, go_sem, *] <;> rfl) rfl ?_
  all_goals exact ⟨⟨_, _, _, _, ts, ls, _, _, _, _, rfl, ResP.mono (RP.out.kept (by repeat' (first | with_reducible exact Keep.refl _ _ _ | with_reducible refine Keep.setB ?_ ?_ _ | with_reducible refine Keep.alloc ?_ ?_ _ | with_reducible refine Keep.drew ?_ | omega | (simp; done) | (simp; omega)))) (by first | omega | (simp; done) | (simp; omega)) (by first | omega | (simp; done) | (simp; omega))⟩, (by first | exact BB.out | (have hb_ := BB.out; go_grown; done) | (have hb_ := BB.out; exact bdrewN (by go_grown) _))⟩
set_option maxRecDepth 100000 in
set_option maxHeartbeats 8000000 in
theorem drawFirstState_any (A : Option Addr) (c : Nat) (xs : List Int) (w : World) (h : BytesAt w A c xs) :
    Calls Try.prog 59 #[.slice A xs.length c] w fun e w' => (∃ A1 c1 A2 c2 ts ls k a b g, e = .returned (.tuple #[profV A1 (List.length ts) c1 A2 (List.length ls) c2, .int .i64 k, dirV a b g]) ∧ ResP w' w.heap.size w'.heap.size A1 c1 A2 c2 ts ls) ∧ Below w.heap.size w w' := by
  have H := Lib.hid h; clear h
  go_enter Try.func59, Try.ntmps59
  go_wp2_with fail
  refine (l01From_any A c xs _ (H.out.below (B := w.heap.size) (by go_grown) (Nat.le_refl _))).mono ?_
  rintro e w3 ⟨rfl, s3, hb3⟩
  obtain ⟨T3, z3, q3, f3, x3, y3⟩ := lkeep (w := w) [w.heap.size, w.heap.size + 1] (by first | (simp; done) | (simp; omega)) (by go_grown) hb3
  simp only [World.size_alloc] at s3
  have hS3 := s3.lt
  have l3_0 := x3 (w.heap.size) (by simp)
  have l3_1 := x3 (w.heap.size + 1) (by simp)
  have SS := Lib.hid s3; have BB := Lib.hid T3; clear s3 T3 hb3
  go_wp2_with (go_at_call 106; refine (l05DrawRay_any (w.heap.size + 1 + 1) A c xs _ (SS.out.keepS (by repeat' (first | with_reducible exact Keep.refl _ _ _ | with_reducible refine Keep.setB ?_ ?_ _ | with_reducible refine Keep.alloc ?_ ?_ _ | with_reducible refine Keep.drew ?_ | omega | (simp; done) | (simp; omega))))).mono ?_; rintro e w4 ⟨⟨A1, c1, A2, c2, ts, ls, kk, da, db, dg, rfl, rp, h1, h2⟩, s4', ch4⟩; have BB := Lib.hid ((show Below w.heap.size w _ from (by first | exact BB.out | (have hb_ := BB.out; go_grown; done) | (have hb_ := BB.out; exact bdrewN (by go_grown) _))).trans (ch4.below (by omega) (by first | omega | (simp; done) | (simp; omega)))); have SS := Lib.hid s4'; obtain ⟨z4, q4, f4, x4, y4⟩ := ckeepB [w.heap.size, w.heap.size + 1] (by first | (simp; done) | (simp; omega)) ch4; (try simp only [World.size_alloc, World.size_drew, size_set] at z4); clear s4' ch4; have l4_0 := x4 (w.heap.size) (by simp); have l4_1 := x4 (w.heap.size + 1) (by simp); have RP := Lib.hid rp; clear rp)
  all_goals refine bodyPost_ret (by simp [results, Try.results59, go_sem, *] <;> rfl) rfl ?_
  all_goals exact ⟨⟨_, _, _, _, ts, ls, _, _, _, _, rfl, ResP.mono (RP.out.kept (by repeat' (first | with_reducible exact Keep.refl _ _ _ | with_reducible refine Keep.setB ?_ ?_ _ | with_reducible refine Keep.alloc ?_ ?_ _ | with_reducible refine Keep.drew ?_ | omega | (simp; done) | (simp; omega)))) (by first | omega | (simp; done) | (simp; omega)) (by first | omega | (simp; done) | (simp; omega))⟩, (by first | exact BB.out | (have hb_ := BB.out; go_grown; done) | (have hb_ := BB.out; exact bdrewN (by go_grown) _))⟩
set_option maxRecDepth 100000 in
set_option maxHeartbeats 8000000 in
theorem drawSineAt_any (A : Option Addr) (c : Nat) (xs : List Int) (w : World) (h : BytesAt w A c xs) :
    Calls Try.prog 30 #[.slice A xs.length c] w fun e w' => (∃ A1 c1 A2 c2 ts ls k a b g z, e = .returned (.tuple #[profV A1 (List.length ts) c1 A2 (List.length ls) c2, .int .i64 k, dirV a b g, .int .i64 z]) ∧ ResP w' w.heap.size w'.heap.size A1 c1 A2 c2 ts ls) ∧ Below w.heap.size w w' := by
  have H := Lib.hid h; clear h
  go_enter Try.func30, Try.ntmps30
  go_wp2_with fail
  refine (drawCanCross_any A c xs _ (H.out.below (B := w.heap.size) (by first | exact Below.refl _ _ | (go_grown; done)) (Nat.le_refl _))).mono ?_
  rintro e w1 ⟨⟨A1, c1, A2, c2, ts, ls, kk, da, db, dg, z, rfl, rp⟩, hb1⟩
  have AT1 := Lib.hid rp; clear rp
  obtain ⟨T1, z1, q1, f1, x1, y1⟩ := lkeep (w := w) [w.heap.size, w.heap.size + 1] (by first | (simp; done) | (simp; omega)) (by go_grown) hb1
  have l1_0 := x1 (w.heap.size) (by simp)
  have l1_1 := x1 (w.heap.size + 1) (by simp)
  have BB := Lib.hid T1; clear T1
  go_wp2
  all_goals refine bodyPost_ret (by simp [results, Try.results30, go_sem, *] <;> rfl) rfl ?_
  all_goals exact ⟨⟨_, _, _, _, ts, ls, _, _, _, _, _, rfl, ResP.mono (AT1.out.kept (by repeat' (first | with_reducible exact Keep.refl _ _ _ | with_reducible refine Keep.setB ?_ ?_ _ | with_reducible refine Keep.alloc ?_ ?_ _ | with_reducible refine Keep.drew ?_ | omega | (simp; done) | (simp; omega)))) (by first | omega | (simp; done) | (simp; omega)) (by first | omega | (simp; done) | (simp; omega))⟩, (by first | exact BB.out | (have hb_ := BB.out; go_grown; done) | (have hb_ := BB.out; exact bdrewN (by go_grown) _))⟩
end Go.Proofs.Ytkmlcjhlckoajaa
