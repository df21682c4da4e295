/- Texts in one: DrawTrace, Dice, DpOk, DpTop. -/
import Derived.Test.YtopggkomkfjbfaaDrawRay
import Derived.Test.YtopggkomkfjbfaaSrc
import Derived.WalkSmall
import Derived.Test.YtopggkomkfjbfaaDeep0
import Derived.Test.YtopggkomkfjbfaaCellB
import Derived.Test.YtopggkomkfjbfaaDeep1
import Derived.Test.YtopggkomkfjbfaaDeep2
import Derived.Test.YtopggkomkfjbfaaTrB
import Derived.Deep.QuietTactic
import Derived.BigQuiet
import Derived.Deep.RegionHeld3
import Derived.Deep.Cut
import Derived.Deep.DeepCutAuto
import Derived.IntWalk
namespace Go.Proofs.Ytopggkomkfjbfaa
section
set_option linter.unusedSimpArgs false
set_option linter.unusedVariables false
open Go.RowKit

set_option maxRecDepth 100000 in
set_option maxHeartbeats 8000000 in
theorem l07Draw_any (S : Nat) (A : Option Addr) (c : Nat) (xs : List Int) (w : World) (h : SrcAt w S A c xs) :
    Calls Try.prog 70 #[.pointer (some ⟨S, 0, none⟩)] w fun e w' => (∃ A1 c1 A2 c2 ts ls k a b g z, e = .returned (.tuple #[profV A1 (List.length ts) c1 A2 (List.length ls) c2, .int .i64 k, dirV a b g, .int .i64 z]) ∧ ResP w' w.heap.size w'.heap.size A1 c1 A2 c2 ts ls) ∧ SrcAt w' S A c xs ∧ ChgB S (S + 1) w w' := by
  have ltS := h.lt
  have SS := Lib.hid h; have CC := Lib.hid (ChgB.refl S (S + 1) w); clear h
  have n_2 : w.heap.size ≠ S := by omega
  have n_6 : S ≠ w.heap.size := by omega
  have n_5 : w.heap.size + 1 ≠ S := by omega
  have n_7 : S ≠ w.heap.size + 1 := by omega
  go_enter Try.func70, Try.ntmps70
  go_upto_region 2 with (go_at_call 109; refine (l05DrawRay_any S A c xs _ (SS.out.keepS (by repeat' (first | with_reducible exact Keep.refl _ _ _ | with_reducible refine Keep.setB ?_ ?_ _ | with_reducible refine Keep.alloc ?_ ?_ _ | with_reducible refine Keep.drew ?_ | omega | (simp; done) | (simp; omega))))).mono ?_; rintro e w2 ⟨⟨A1, c1, A2, c2, ts, ls, kk, da, db, dg, rfl, rp, h1, h2⟩, s2', ch2⟩; have CC := Lib.hid ((show ChgB S (S + 1) w _ from (by repeat' (first | with_reducible exact CC.out | with_reducible exact ChgB.refl _ _ _ | with_reducible refine ChgB.setB ?_ ?_ _ | with_reducible refine ChgB.alloc ?_ _ | with_reducible refine ChgB.drew ?_ | with_reducible refine ChgB.drewN ?_ _ | omega | (simp; done) | (simp; omega)))).trans ch2); have SS := Lib.hid s2'; obtain ⟨z2, q2, f2, x2, y2⟩ := ckeepB [w.heap.size, w.heap.size + 1] (by first | (simp; done) | (simp; omega)) ch2; (try simp only [World.size_alloc, World.size_drew, size_set] at z2); clear s2' ch2; have l2_0 := x2 (w.heap.size) (by simp); have l2_1 := x2 (w.heap.size + 1) (by simp); have RP := Lib.hid rp; clear rp)
  obtain ⟨naa1, nab1, naa2, nab2, naa3, nab3, naa4, nab4⟩ : (w.heap.size = w2.heap.size) = False ∧ (w2.heap.size = w.heap.size) = False ∧ (w.heap.size = w2.heap.size + 1) = False ∧ (w2.heap.size + 1 = w.heap.size) = False ∧ (w.heap.size + 1 = w2.heap.size) = False ∧ (w2.heap.size = w.heap.size + 1) = False ∧ (w.heap.size + 1 = w2.heap.size + 1) = False ∧ (w2.heap.size + 1 = w.heap.size + 1) = False := by
    refine ⟨?_, ?_, ?_, ?_, ?_, ?_, ?_, ?_⟩ <;> exact eq_false (by omega)
  have sA2_0 : S ≠ w2.heap.size := by omega
  have sB2_0 : w2.heap.size ≠ S := by omega
  have sC2_0 : S < w2.heap.size := by omega
  have sD2_0 : w.heap.size ≤ w2.heap.size := by omega
  have sA2_1 : S ≠ w2.heap.size + 1 := by omega
  have sB2_1 : w2.heap.size + 1 ≠ S := by omega
  have sC2_1 : S < w2.heap.size + 1 := by omega
  have sD2_1 : w.heap.size ≤ w2.heap.size + 1 := by omega
  have RP : Hid (ResP _ (w.heap.size + 1 + 1) w2.heap.size A1 c1 A2 c2 ts ls) := Lib.hid (RP.out.mono (by first | (simp; done) | (simp; omega)) (Nat.le_refl _))
  refine genS (S := fun w' => w.heap.size < w'.heap.size ∧ w.heap.size + 1 < w'.heap.size ∧ w2.heap.size < w'.heap.size ∧ w2.heap.size + 1 < w'.heap.size ∧ w'.cell? ⟨w.heap.size, 0, none⟩ = some (.slice none 0 0) ∧ w'.cell? ⟨w.heap.size, 1, none⟩ = some (.slice none 0 0) ∧ w'.cell? ⟨w.heap.size + 1, 0, none⟩ = some (.int .i64 0) ∧ w'.cell? ⟨w.heap.size + 1, 1, none⟩ = some (.int .i64 0) ∧ w'.cell? ⟨w.heap.size + 1, 2, none⟩ = some (.int .i64 0) ∧ w'.cell? ⟨w2.heap.size, 0, none⟩ = some (.slice A1 (List.length ts) c1) ∧ w'.cell? ⟨w2.heap.size, 1, none⟩ = some (.slice A2 (List.length ls) c2) ∧ w'.cell? ⟨w2.heap.size + 1, 0, none⟩ = some (.int .i64 da) ∧ w'.cell? ⟨w2.heap.size + 1, 1, none⟩ = some (.int .i64 db) ∧ w'.cell? ⟨w2.heap.size + 1, 2, none⟩ = some (.int .i64 dg) ∧ (∀ o, w'.frozen? ⟨w.heap.size, o, none⟩ = false) ∧ (∀ o, w'.frozen? ⟨w.heap.size + 1, o, none⟩ = false) ∧ ChgB S (S + 1) w w' ∧ SrcAt w' S A c xs ∧ ResP w' (w.heap.size + 1 + 1) w2.heap.size A1 c1 A2 c2 ts ls) ⟨by first | omega | (simp; done) | (simp; omega), by first | omega | (simp; done) | (simp; omega), by first | omega | (simp; done) | (simp; omega), by first | omega | (simp; done) | (simp; omega), by simp [*, go_sem], by simp [*, go_sem], by simp [*, go_sem], by simp [*, go_sem], by simp [*, go_sem], by simp [*, go_sem], by simp [*, go_sem], by simp [*, go_sem], by simp [*, go_sem], by simp [*, go_sem], fun o => by simp [*, go_sem], fun o => by simp [*, go_sem], (by repeat' (first | with_reducible exact CC.out | with_reducible exact ChgB.refl _ _ _ | with_reducible refine ChgB.setB ?_ ?_ _ | with_reducible refine ChgB.alloc ?_ _ | with_reducible refine ChgB.drew ?_ | with_reducible refine ChgB.drewN ?_ _ | omega | (simp; done) | (simp; omega))), SS.out.keepS (by repeat' (first | with_reducible exact Keep.refl _ _ _ | with_reducible refine Keep.setB ?_ ?_ _ | with_reducible refine Keep.alloc ?_ ?_ _ | with_reducible refine Keep.drew ?_ | omega | (simp; done) | (simp; omega))), RP.out.kept (by repeat' (first | with_reducible exact Keep.refl _ _ _ | with_reducible refine Keep.setB ?_ ?_ _ | with_reducible refine Keep.alloc ?_ ?_ _ | with_reducible refine Keep.drew ?_ | omega | (simp; done) | (simp; omega)))⟩ ?_
  clear z2 q2 f2 x2 y2 l2_0 l2_1
  rintro w3 ⟨lt3_0, lt3_1, lt3_2, lt3_3, c3_0, c3_1, c3_2, c3_3, c3_4, c3_5, c3_6, c3_7, c3_8, c3_9, fz3_0, fz3_1, cc, ss, rr_RP⟩
  have CC := Lib.hid cc; have SS := Lib.hid ss; have RP := Lib.hid rr_RP; clear cc ss rr_RP
  go_wp2_with fail
  refine (l01Next_any S A c xs _ _ (SS.out.keepS (by repeat' (first | with_reducible exact Keep.refl _ _ _ | with_reducible refine Keep.setB ?_ ?_ _ | with_reducible refine Keep.alloc ?_ ?_ _ | with_reducible refine Keep.drew ?_ | omega | (simp; done) | (simp; omega))))).mono ?_; rintro e w4 ⟨⟨n4, rfl, n40, n41⟩, s4', ch4⟩; have CC := Lib.hid ((show ChgB S (S + 1) w _ from (by repeat' (first | with_reducible exact CC.out | with_reducible exact ChgB.refl _ _ _ | with_reducible refine ChgB.setB ?_ ?_ _ | with_reducible refine ChgB.alloc ?_ _ | with_reducible refine ChgB.drew ?_ | with_reducible refine ChgB.drewN ?_ _ | omega | (simp; done) | (simp; omega)))).trans ch4.toB); have RP := Lib.hid (RP.out.keepB (by repeat' (first | with_reducible exact Keep.refl _ _ _ | with_reducible refine Keep.setB ?_ ?_ _ | with_reducible refine Keep.alloc ?_ ?_ _ | with_reducible refine Keep.drew ?_ | omega | (simp; done) | (simp; omega))) ch4.toB (by omega) (by first | omega | (simp; done) | (simp; omega))); have SS := Lib.hid s4'; obtain ⟨z4, q4, f4, x4, y4⟩ := ckeepB [w.heap.size, w.heap.size + 1, w2.heap.size, w2.heap.size + 1] (by first | (simp; done) | (simp; omega)) ch4.toB; (try simp only [World.size_alloc, World.size_drew, size_set] at z4); clear s4' ch4; have l4_0 := x4 (w.heap.size) (by simp); have l4_1 := x4 (w.heap.size + 1) (by simp); have l4_2 := x4 (w2.heap.size) (by simp); have l4_3 := x4 (w2.heap.size + 1) (by simp)
  go_wp2_with fail
  refine (l01Next_any S A c xs _ _ (SS.out.keepS (by repeat' (first | with_reducible exact Keep.refl _ _ _ | with_reducible refine Keep.setB ?_ ?_ _ | with_reducible refine Keep.alloc ?_ ?_ _ | with_reducible refine Keep.drew ?_ | omega | (simp; done) | (simp; omega))))).mono ?_; rintro e w6 ⟨⟨n6, rfl, n60, n61⟩, s6', ch6⟩; have CC := Lib.hid ((show ChgB S (S + 1) w _ from (by repeat' (first | with_reducible exact CC.out | with_reducible exact ChgB.refl _ _ _ | with_reducible refine ChgB.setB ?_ ?_ _ | with_reducible refine ChgB.alloc ?_ _ | with_reducible refine ChgB.drew ?_ | with_reducible refine ChgB.drewN ?_ _ | omega | (simp; done) | (simp; omega)))).trans ch6.toB); have RP := Lib.hid (RP.out.keepB (by repeat' (first | with_reducible exact Keep.refl _ _ _ | with_reducible refine Keep.setB ?_ ?_ _ | with_reducible refine Keep.alloc ?_ ?_ _ | with_reducible refine Keep.drew ?_ | omega | (simp; done) | (simp; omega))) ch6.toB (by omega) (by first | omega | (simp; done) | (simp; omega))); have SS := Lib.hid s6'; obtain ⟨z6, q6, f6, x6, y6⟩ := ckeepB [w.heap.size, w.heap.size + 1, w2.heap.size, w2.heap.size + 1] (by first | (simp; done) | (simp; omega)) ch6.toB; (try simp only [World.size_alloc, World.size_drew, size_set] at z6); clear s6' ch6; have l6_0 := x6 (w.heap.size) (by simp); have l6_1 := x6 (w.heap.size + 1) (by simp); have l6_2 := x6 (w2.heap.size) (by simp); have l6_3 := x6 (w2.heap.size + 1) (by simp)
  by_cases hn : n6 = 0
  · subst hn
    go_wp2_with fail
    refine (l01Pick_any S A c xs _ 0 _ [-1, 100, 101] _ (SS.out.keepS (by repeat' (first | with_reducible exact Keep.refl _ _ _ | with_reducible refine Keep.setB ?_ ?_ _ | with_reducible refine Keep.alloc ?_ ?_ _ | with_reducible refine Keep.drew ?_ | omega | (simp; done) | (simp; omega)))) ⟨by simp, by simp, .inr ⟨_, 0, rfl, by first | omega | (simp; done) | (simp; omega), fun i x hx => by rcases i with _ | _ | _ | _ | i <;> simp at hx <;> subst hx <;> simp [*, go_sem]⟩⟩ (by simp) (by first | omega | (simp; omega))).mono ?_; rintro e w7 ⟨⟨n7, rfl, nm7⟩, s7', ch7⟩; have CC := Lib.hid ((show ChgB S (S + 1) w _ from (by repeat' (first | with_reducible exact CC.out | with_reducible exact ChgB.refl _ _ _ | with_reducible refine ChgB.setB ?_ ?_ _ | with_reducible refine ChgB.alloc ?_ _ | with_reducible refine ChgB.drew ?_ | with_reducible refine ChgB.drewN ?_ _ | omega | (simp; done) | (simp; omega)))).trans ch7.toB); have RP := Lib.hid (RP.out.keepB (by repeat' (first | with_reducible exact Keep.refl _ _ _ | with_reducible refine Keep.setB ?_ ?_ _ | with_reducible refine Keep.alloc ?_ ?_ _ | with_reducible refine Keep.drew ?_ | omega | (simp; done) | (simp; omega))) ch7.toB (by omega) (by first | omega | (simp; done) | (simp; omega))); have SS := Lib.hid s7'; obtain ⟨z7, q7, f7, x7, y7⟩ := ckeepB [w.heap.size, w.heap.size + 1, w2.heap.size, w2.heap.size + 1] (by first | (simp; done) | (simp; omega)) ch7.toB; (try simp only [World.size_alloc, World.size_drew, size_set] at z7); clear s7' ch7; have l7_0 := x7 (w.heap.size) (by simp); have l7_1 := x7 (w.heap.size + 1) (by simp); have l7_2 := x7 (w2.heap.size) (by simp); have l7_3 := x7 (w2.heap.size + 1) (by simp); clear nm7
    go_upto_region 5 with fail
    refine genS (S := fun w' => w.heap.size < w'.heap.size ∧ w.heap.size + 1 < w'.heap.size ∧ w2.heap.size < w'.heap.size ∧ w2.heap.size + 1 < w'.heap.size ∧ w'.cell? ⟨w.heap.size, 0, none⟩ = some (.slice none 0 0) ∧ w'.cell? ⟨w.heap.size, 1, none⟩ = some (.slice none 0 0) ∧ w'.cell? ⟨w.heap.size + 1, 0, none⟩ = some (.int .i64 0) ∧ w'.cell? ⟨w.heap.size + 1, 1, none⟩ = some (.int .i64 0) ∧ w'.cell? ⟨w.heap.size + 1, 2, none⟩ = some (.int .i64 0) ∧ w'.cell? ⟨w2.heap.size, 0, none⟩ = some (.slice A1 (List.length ts) c1) ∧ w'.cell? ⟨w2.heap.size, 1, none⟩ = some (.slice A2 (List.length ls) c2) ∧ w'.cell? ⟨w2.heap.size + 1, 0, none⟩ = some (.int .i64 da) ∧ w'.cell? ⟨w2.heap.size + 1, 1, none⟩ = some (.int .i64 db) ∧ w'.cell? ⟨w2.heap.size + 1, 2, none⟩ = some (.int .i64 dg) ∧ (∀ o, w'.frozen? ⟨w.heap.size, o, none⟩ = false) ∧ (∀ o, w'.frozen? ⟨w.heap.size + 1, o, none⟩ = false) ∧ ChgB S (S + 1) w w' ∧ SrcAt w' S A c xs ∧ ResP w' (w.heap.size + 1 + 1) w2.heap.size A1 c1 A2 c2 ts ls) ⟨by first | omega | (simp; done) | (simp; omega), by first | omega | (simp; done) | (simp; omega), by first | omega | (simp; done) | (simp; omega), by first | omega | (simp; done) | (simp; omega), by simp [*, go_sem], by simp [*, go_sem], by simp [*, go_sem], by simp [*, go_sem], by simp [*, go_sem], by simp [*, go_sem], by simp [*, go_sem], by simp [*, go_sem], by simp [*, go_sem], by simp [*, go_sem], fun o => by simp [*, go_sem], fun o => by simp [*, go_sem], (by repeat' (first | with_reducible exact CC.out | with_reducible exact ChgB.refl _ _ _ | with_reducible refine ChgB.setB ?_ ?_ _ | with_reducible refine ChgB.alloc ?_ _ | with_reducible refine ChgB.drew ?_ | with_reducible refine ChgB.drewN ?_ _ | omega | (simp; done) | (simp; omega))), SS.out.keepS (by repeat' (first | with_reducible exact Keep.refl _ _ _ | with_reducible refine Keep.setB ?_ ?_ _ | with_reducible refine Keep.alloc ?_ ?_ _ | with_reducible refine Keep.drew ?_ | omega | (simp; done) | (simp; omega))), RP.out.kept (by repeat' (first | with_reducible exact Keep.refl _ _ _ | with_reducible refine Keep.setB ?_ ?_ _ | with_reducible refine Keep.alloc ?_ ?_ _ | with_reducible refine Keep.drew ?_ | omega | (simp; done) | (simp; omega)))⟩ ?_
    clear z4 q4 f4 x4 y4 z6 q6 f6 x6 y6 z7 q7 f7 x7 y7 l4_0 l4_1 l4_2 l4_3 l6_0 l6_1 l6_2 l6_3 l7_0 l7_1 l7_2 l7_3 n40 n41 lt3_0 lt3_1 lt3_2 lt3_3 c3_0 c3_1 c3_2 c3_3 c3_4 c3_5 c3_6 c3_7 c3_8 c3_9 fz3_0 fz3_1
    rintro w8 ⟨lt8_0, lt8_1, lt8_2, lt8_3, c8_0, c8_1, c8_2, c8_3, c8_4, c8_5, c8_6, c8_7, c8_8, c8_9, fz8_0, fz8_1, cc, ss, rr_RP⟩
    have CC := Lib.hid cc; have SS := Lib.hid ss; have RP := Lib.hid rr_RP; clear cc ss rr_RP
    go_region
    all_goals go_wp2
    all_goals refine bodyPost_ret (by simp [results, Try.results70, go_sem, *] <;> rfl) rfl ?_
    all_goals exact ⟨⟨_, _, _, _, ts, ls, _, _, _, _, _, rfl, ResP.mono (RP.out.kept (by repeat' (first | with_reducible exact Keep.refl _ _ _ | with_reducible refine Keep.setB ?_ ?_ _ | with_reducible refine Keep.alloc ?_ ?_ _ | with_reducible refine Keep.drew ?_ | omega | (simp; done) | (simp; omega)))) (by first | omega | (simp; done) | (simp; omega)) (by first | omega | (simp; done) | (simp; omega))⟩, SS.out.keepS (by repeat' (first | with_reducible exact Keep.refl _ _ _ | with_reducible refine Keep.setB ?_ ?_ _ | with_reducible refine Keep.alloc ?_ ?_ _ | with_reducible refine Keep.drew ?_ | omega | (simp; done) | (simp; omega))), (by repeat' (first | with_reducible exact CC.out | with_reducible exact ChgB.refl _ _ _ | with_reducible refine ChgB.setB ?_ ?_ _ | with_reducible refine ChgB.alloc ?_ _ | with_reducible refine ChgB.drew ?_ | with_reducible refine ChgB.drewN ?_ _ | omega | (simp; done) | (simp; omega)))⟩
  · have hn2 : (n6 == 0) = false := beq_eq_false_iff_ne.2 hn
    go_upto_region 5 with fail
    refine genS (S := fun w' => w.heap.size < w'.heap.size ∧ w.heap.size + 1 < w'.heap.size ∧ w2.heap.size < w'.heap.size ∧ w2.heap.size + 1 < w'.heap.size ∧ w'.cell? ⟨w.heap.size, 0, none⟩ = some (.slice none 0 0) ∧ w'.cell? ⟨w.heap.size, 1, none⟩ = some (.slice none 0 0) ∧ w'.cell? ⟨w.heap.size + 1, 0, none⟩ = some (.int .i64 0) ∧ w'.cell? ⟨w.heap.size + 1, 1, none⟩ = some (.int .i64 0) ∧ w'.cell? ⟨w.heap.size + 1, 2, none⟩ = some (.int .i64 0) ∧ w'.cell? ⟨w2.heap.size, 0, none⟩ = some (.slice A1 (List.length ts) c1) ∧ w'.cell? ⟨w2.heap.size, 1, none⟩ = some (.slice A2 (List.length ls) c2) ∧ w'.cell? ⟨w2.heap.size + 1, 0, none⟩ = some (.int .i64 da) ∧ w'.cell? ⟨w2.heap.size + 1, 1, none⟩ = some (.int .i64 db) ∧ w'.cell? ⟨w2.heap.size + 1, 2, none⟩ = some (.int .i64 dg) ∧ (∀ o, w'.frozen? ⟨w.heap.size, o, none⟩ = false) ∧ (∀ o, w'.frozen? ⟨w.heap.size + 1, o, none⟩ = false) ∧ ChgB S (S + 1) w w' ∧ SrcAt w' S A c xs ∧ ResP w' (w.heap.size + 1 + 1) w2.heap.size A1 c1 A2 c2 ts ls) ⟨by first | omega | (simp; done) | (simp; omega), by first | omega | (simp; done) | (simp; omega), by first | omega | (simp; done) | (simp; omega), by first | omega | (simp; done) | (simp; omega), by simp [*, go_sem], by simp [*, go_sem], by simp [*, go_sem], by simp [*, go_sem], by simp [*, go_sem], by simp [*, go_sem], by simp [*, go_sem], by simp [*, go_sem], by simp [*, go_sem], by simp [*, go_sem], fun o => by simp [*, go_sem], fun o => by simp [*, go_sem], (by repeat' (first | with_reducible exact CC.out | with_reducible exact ChgB.refl _ _ _ | with_reducible refine ChgB.setB ?_ ?_ _ | with_reducible refine ChgB.alloc ?_ _ | with_reducible refine ChgB.drew ?_ | with_reducible refine ChgB.drewN ?_ _ | omega | (simp; done) | (simp; omega))), SS.out.keepS (by repeat' (first | with_reducible exact Keep.refl _ _ _ | with_reducible refine Keep.setB ?_ ?_ _ | with_reducible refine Keep.alloc ?_ ?_ _ | with_reducible refine Keep.drew ?_ | omega | (simp; done) | (simp; omega))), RP.out.kept (by repeat' (first | with_reducible exact Keep.refl _ _ _ | with_reducible refine Keep.setB ?_ ?_ _ | with_reducible refine Keep.alloc ?_ ?_ _ | with_reducible refine Keep.drew ?_ | omega | (simp; done) | (simp; omega)))⟩ ?_
    clear z4 q4 f4 x4 y4 z6 q6 f6 x6 y6 l4_0 l4_1 l4_2 l4_3 l6_0 l6_1 l6_2 l6_3 n40 n41 n60 n61 lt3_0 lt3_1 lt3_2 lt3_3 c3_0 c3_1 c3_2 c3_3 c3_4 c3_5 c3_6 c3_7 c3_8 c3_9 fz3_0 fz3_1
    rintro w8 ⟨lt8_0, lt8_1, lt8_2, lt8_3, c8_0, c8_1, c8_2, c8_3, c8_4, c8_5, c8_6, c8_7, c8_8, c8_9, fz8_0, fz8_1, cc, ss, rr_RP⟩
    have CC := Lib.hid cc; have SS := Lib.hid ss; have RP := Lib.hid rr_RP; clear cc ss rr_RP
    go_region
    all_goals go_wp2
    all_goals refine bodyPost_ret (by simp [results, Try.results70, go_sem, *] <;> rfl) rfl ?_
    all_goals exact ⟨⟨_, _, _, _, ts, ls, _, _, _, _, _, rfl, ResP.mono (RP.out.kept (by repeat' (first | with_reducible exact Keep.refl _ _ _ | with_reducible refine Keep.setB ?_ ?_ _ | with_reducible refine Keep.alloc ?_ ?_ _ | with_reducible refine Keep.drew ?_ | omega | (simp; done) | (simp; omega)))) (by first | omega | (simp; done) | (simp; omega)) (by first | omega | (simp; done) | (simp; omega))⟩, SS.out.keepS (by repeat' (first | with_reducible exact Keep.refl _ _ _ | with_reducible refine Keep.setB ?_ ?_ _ | with_reducible refine Keep.alloc ?_ ?_ _ | with_reducible refine Keep.drew ?_ | omega | (simp; done) | (simp; omega))), (by repeat' (first | with_reducible exact CC.out | with_reducible exact ChgB.refl _ _ _ | with_reducible refine ChgB.setB ?_ ?_ _ | with_reducible refine ChgB.alloc ?_ _ | with_reducible refine ChgB.drew ?_ | with_reducible refine ChgB.drewN ?_ _ | omega | (simp; done) | (simp; omega)))⟩
set_option maxRecDepth 100000 in
set_option maxHeartbeats 8000000 in
theorem drawDeepestOf_any (A : Option Addr) (c : Nat) (xs : List Int) (w : World) (h : BytesAt w A c xs) :
    Calls Try.prog 26 #[.slice A xs.length c] w fun e w' => (∃ A1 c1 A2 c2 ts ls k a b g z, e = .returned (.tuple #[profV A1 (List.length ts) c1 A2 (List.length ls) c2, .int .i64 k, dirV a b g, .int .i64 z]) ∧ ResP w' w.heap.size w'.heap.size A1 c1 A2 c2 ts ls) ∧ Below w.heap.size w w' := by
  have H := Lib.hid h; clear h
  go_enter Try.func26, Try.ntmps26
  go_wp2_with fail
  refine (l01From_any A c xs _ (H.out.below (B := w.heap.size) (by go_grown) (Nat.le_refl _))).mono ?_
  rintro e w3 ⟨rfl, s3, hb3⟩
  obtain ⟨T3, z3, q3, f3, x3, y3⟩ := lkeep (w := w) [w.heap.size, w.heap.size + 1] (by first | (simp; done) | (simp; omega)) (by go_grown) hb3
  simp only [World.size_alloc] at s3
  have hS3 := s3.lt
  have l3_0 := x3 (w.heap.size) (by simp)
  have l3_1 := x3 (w.heap.size + 1) (by simp)
  have SS := Lib.hid s3; have BB := Lib.hid T3; clear s3 T3 hb3
  go_wp2_with (go_at_call 70; refine (l07Draw_any (w.heap.size + 1 + 1) A c xs _ (SS.out.keepS (by repeat' (first | with_reducible exact Keep.refl _ _ _ | with_reducible refine Keep.setB ?_ ?_ _ | with_reducible refine Keep.alloc ?_ ?_ _ | with_reducible refine Keep.drew ?_ | omega | (simp; done) | (simp; omega))))).mono ?_; rintro e w4 ⟨⟨A1, c1, A2, c2, ts, ls, kk, da, db, dg, zz, rfl, rp⟩, s4', ch4⟩; have BB := Lib.hid ((show Below w.heap.size w _ from (by first | with_reducible exact BB.out | (have hb_ := BB.out; go_grown; done) | (have hb_ := BB.out; exact bdrewN (by go_grown) _))).trans (ch4.below (by omega) (by first | omega | (simp; done) | (simp; omega)))); have SS := Lib.hid s4'; obtain ⟨z4, q4, f4, x4, y4⟩ := ckeepB [w.heap.size, w.heap.size + 1] (by first | (simp; done) | (simp; omega)) ch4; (try simp only [World.size_alloc, World.size_drew, size_set] at z4); clear s4' ch4; have l4_0 := x4 (w.heap.size) (by simp); have l4_1 := x4 (w.heap.size + 1) (by simp); have RP := Lib.hid rp; clear rp)
  all_goals refine bodyPost_ret (by simp [results, Try.results26, go_sem, *] <;> rfl) rfl ?_
  all_goals exact ⟨⟨_, _, _, _, ts, ls, _, _, _, _, _, rfl, ResP.mono (RP.out.kept (by repeat' (first | with_reducible exact Keep.refl _ _ _ | with_reducible refine Keep.setB ?_ ?_ _ | with_reducible refine Keep.alloc ?_ ?_ _ | with_reducible refine Keep.drew ?_ | omega | (simp; done) | (simp; omega)))) (by first | omega | (simp; done) | (simp; omega)) (by first | omega | (simp; done) | (simp; omega))⟩, (by first | with_reducible exact BB.out | (have hb_ := BB.out; go_grown; done) | (have hb_ := BB.out; exact bdrewN (by go_grown) _))⟩
end

section
set_option linter.unusedSimpArgs false
set_option linter.unusedVariables false
open Go.RowKit

/-- a dice in block D, over these bytes -/
structure DiceAt (w : World) (D : Nat) (A : Option Addr) (c : Nat) (xs : List Int) : Prop where
  lt : D < w.heap.size
  fr : ∀ o, w.frozen? ⟨D, o, none⟩ = false
  code : w.cell? ⟨D, 0, none⟩ = some (.slice A xs.length c)
  at_ : ∃ k : Nat, k ≤ xs.length ∧ w.cell? ⟨D, 1, none⟩ = some (.int .i64 k)
  h : ∃ z : Int, w.cell? ⟨D, 2, none⟩ = some (.int .u64 z)
  bytes : BytesAt w A c xs
  low : xs ≠ [] → ∀ b off, A = some ⟨b, off, none⟩ → b < D
section
variable {w w1 : World} {A : Option Addr} {c D B lo hi : Nat} {xs : List Int}
theorem DiceAt.of_block (h : DiceAt w D A c xs) (hs : w.heap.size ≤ w1.heap.size) (hb : w1.heap[D]? = w.heap[D]?) (hl : ∀ b, b < D → w1.heap[b]? = w.heap[b]?) : DiceAt w1 D A c xs := by
  have hc : ∀ o, w1.cell? ⟨D, o, none⟩ = w.cell? ⟨D, o, none⟩ := fun o => World.cell?_of_block (w := w) hb
  refine ⟨Nat.lt_of_lt_of_le h.lt hs, fun o => (World.frozen?_of_block (w := w) hb).trans (h.fr o), (hc 0).trans h.code, ?_, ?_, h.bytes.blocks hs (fun hx b off e => hl b (h.low hx b off e)), h.low⟩
  · obtain ⟨k, h1, h2⟩ := h.at_
    exact ⟨k, h1, (hc 1).trans h2⟩
  · obtain ⟨z, h3⟩ := h.h
    exact ⟨z, (hc 2).trans h3⟩
theorem DiceAt.below (h : DiceAt w D A c xs) (hb : Below B w w1) (hB : D < B) : DiceAt w1 D A c xs := h.of_block hb.size (hb.block D hB) (fun b hl => hb.block b (by omega))
theorem DiceAt.mk_chg (h : DiceAt w D A c xs) (hc : Chg D (D + 1) w w1) (hf : ∀ o, w1.frozen? ⟨D, o, none⟩ = false) (h0 : w1.cell? ⟨D, 0, none⟩ = some (.slice A xs.length c)) {k : Nat} (hk : k ≤ xs.length) (h1 : w1.cell? ⟨D, 1, none⟩ = some (.int .i64 k))
    {z : Int} (h2 : w1.cell? ⟨D, 2, none⟩ = some (.int .u64 z)) : DiceAt w1 D A c xs :=
  ⟨by rw [hc.size]; exact h.lt, hf, h0, ⟨k, hk, h1⟩, ⟨z, h2⟩, h.bytes.blocks (by rw [hc.size]; exact Nat.le_refl _) (fun hx b off e => hc.block b (.inl (h.low hx b off e))), h.low⟩
end
/-- the bits that a draw takes -/
def dbit (q : Int) : Int := bits BinOp.and IntKind.u64 q 16777215
theorem dbit_bd (z : Int) : 0 ≤ dbit (IntKind.u64.wrap z / 8589934592) ∧ dbit (IntKind.u64.wrap z / 8589934592) ≤ 16777215 := by
  obtain ⟨q, hq⟩ : ∃ q : Nat, IntKind.u64.wrap z / 8589934592 = (q : Int) ∧ q < 18446744073709551616 := by
    have h0 : 0 ≤ IntKind.u64.wrap z ∧ IntKind.u64.wrap z < 18446744073709551616 := by
      simp only [IntKind.wrap, IntKind.bits, IntKind.signed]
      have e1 := Int.emod_nonneg z (show (18446744073709551616 : Int) ≠ 0 by omega)
      have e2 := Int.emod_lt_of_pos z (show (0 : Int) < 18446744073709551616 by omega)
      simp
      omega
    refine ⟨(IntKind.u64.wrap z / 8589934592).toNat, ?_, ?_⟩ <;> omega
  obtain ⟨h1, h2⟩ := hq
  unfold dbit
  rw [h1, show (16777215 : Int) = ((16777215 : Nat) : Int) from rfl, bits_and_u64_nat _ _ h2 (by omega)]
  have := Nat.and_le_right (n := q) (m := 16777215)
  omega

set_option maxHeartbeats 4000000 in
theorem below_any (D : Nat) (A : Option Addr) (c : Nat) (xs : List Int) (n : Int) (w : World) (h : DiceAt w D A c xs) (hn : 1 ≤ n) (hn2 : n ≤ 1000000000000) :
    Calls Try.prog 28 #[.pointer (some ⟨D, 0, none⟩), .int .i64 n] w fun e w' => (∃ x : Int, e = .returned (.int .i64 x) ∧ 0 ≤ x ∧ x < n) ∧ DiceAt w' D A c xs ∧ Chg D (D + 1) w w' := by
  obtain ⟨k, hk, c1⟩ := h.at_
  obtain ⟨z, c2⟩ := h.h
  have c0 := h.code; have lt := h.lt; have fr := h.fr
  have hlen := h.bytes.1; have hc63 := h.bytes.2.1
  have hnz : ¬ n = 0 := by omega
  have H := Lib.hid h; clear h
  have HB := dbit_bd (IntKind.u64.wrap (z * 6364136223846793005) + 1442695040888963407)
  unfold dbit at HB
  have HB := Lib.hid HB
  by_cases hat : (k : Int) < xs.length
  · obtain ⟨b, off, y, hA, hb, hy, cy, y0, y1⟩ := H.out.bytes.at_ (k := k) (by omega)
    have hbS := H.out.low (by intro e; rw [e] at hat; simp at hat; omega) b off hA
    subst hA
    have kk0 : (0 : Int) ≤ k := by omega
    have nb1 : b ≠ D := by omega
    have nb2 : D ≠ b := by omega
    have hy' := Lib.hid hy; clear hy
    go_enter Try.func28, Try.ntmps28
    go_wp2_with fail
    have HB := HB.out
    generalize IntKind.u64.wrap (IntKind.u64.wrap (z * 6364136223846793005) + 1442695040888963407) = zz at HB ⊢
    generalize IntKind.u64.wrap (z * 6364136223846793005) = z3
    generalize bits BinOp.and IntKind.u64 (zz / 8589934592) 16777215 = x0 at HB ⊢
    obtain ⟨a0, a1⟩ := HB
    have W0 : wrap64 x0 = x0 := by unfold wrap64; omega
    (try rw [W0])
    have W3 : IntKind.i64.wrap (x0 + y) = x0 + y := IntWalk.i64_in _ (by omega)
    have W4 : IntKind.i64.wrap ((k : Int) + 1) = (k : Int) + 1 := IntWalk.i64_in _ (by omega)
    have W5 : IntKind.i64.wrap y = y := IntWalk.i64_in _ (by omega)
    clear W0
    go_quiet (fail)
    go_wp2_with fail
    go_quiet (fail)
    go_wp2_with fail
    go_ret
    refine ⟨⟨_, rfl, Int.emod_nonneg _ hnz, Int.emod_lt_of_pos _ (by omega)⟩, H.out.mk_chg (k := k + 1) (z := zz) ?_ (fun o => by simp [*, go_sem]) (by simp [*, go_sem]) (by omega) (by simp [*, go_sem]) (by simp [*, go_sem]), ?_⟩
    all_goals exact (by repeat' (first | exact Chg.refl _ _ _ | refine Chg.drewN ?_ _ | refine Chg.set ?_ ?_ ?_ _ | exact Nat.le_refl _ | exact Nat.lt_succ_self _))
  · go_enter Try.func28, Try.ntmps28
    go_wp2_with fail
    have HB := HB.out
    generalize IntKind.u64.wrap (IntKind.u64.wrap (z * 6364136223846793005) + 1442695040888963407) = zz at HB ⊢
    generalize IntKind.u64.wrap (z * 6364136223846793005) = z3
    generalize bits BinOp.and IntKind.u64 (zz / 8589934592) 16777215 = x0 at HB ⊢
    obtain ⟨a0, a1⟩ := HB
    have W0 : wrap64 x0 = x0 := by unfold wrap64; omega
    (try rw [W0])
    clear W0
    go_quiet (fail)
    go_wp2_with fail
    go_ret
    refine ⟨⟨_, rfl, Int.emod_nonneg _ hnz, Int.emod_lt_of_pos _ (by omega)⟩, H.out.mk_chg (k := k) (z := zz) ?_ (fun o => by simp [*, go_sem]) (by simp [*, go_sem]) hk (by simp [*, go_sem]) (by simp [*, go_sem]), ?_⟩
    all_goals exact (by repeat' (first | exact Chg.refl _ _ _ | refine Chg.drewN ?_ _ | refine Chg.set ?_ ?_ ?_ _ | exact Nat.le_refl _ | exact Nat.lt_succ_self _))
set_option maxHeartbeats 4000000 in
theorem roll_any (A : Option Addr) (c : Nat) (xs : List Int) (sd : Int) (w : World) (h : BytesAt w A c xs) :
    Calls Try.prog 27 #[.slice A xs.length c, .int .u64 sd] w fun e w' => ∃ D, e = .returned (.pointer (some ⟨D, 0, none⟩)) ∧ w.heap.size ≤ D ∧ DiceAt w' D A c xs ∧ Below w.heap.size w w' := by
  have H := Lib.hid h
  have hn := Nat.le_trans h.1 h.2.1
  clear h
  go_enter Try.func27, Try.ntmps27
  go_wp2
  go_loopw [6] (fun i wr => ∃ (k : Nat) (z : Int), k ≤ xs.length ∧ i = .int .i64 k ∧ Below w.heap.size w wr ∧ w.heap.size < wr.heap.size ∧ wr.cell? ⟨w.heap.size, 0, none⟩ = some (.slice A xs.length c) ∧ wr.cell? ⟨w.heap.size, 1, none⟩ = some (.int .i64 0) ∧ wr.cell? ⟨w.heap.size, 2, none⟩ = some (.int .u64 z) ∧ (∀ o, wr.frozen? ⟨w.heap.size, o, none⟩ = false)) (fun i _ => xs.length - (intOf i).toNat)
  case atStart => exact ⟨0, _, by omega, rfl, by go_grown, by simp, by simp [go_sem], by simp [go_sem], by simp [go_sem] <;> rfl, fun o => by simp [go_sem]⟩
  case round =>
    obtain ⟨k, z, hk, rfl, Br, lt, c0, c1, c2, fz⟩ := hrel
    by_cases hlt : (k : Int) < xs.length
    · obtain ⟨b, off, x, rfl, hb, hx, cx, x0, x1⟩ := H.out.at_ (k := k) (by omega)
      have cx' := (bAt Br (b := b) (o := off + k) hb).trans cx
      have kk0 : (0 : Int) ≤ k := by omega
      have nb : b ≠ w.heap.size := by omega
      have HBr := Lib.hid Br; have HX := Lib.hid hx; clear Br hx
      go_wp2_with fail
      go_region
      all_goals go_wp2
      all_goals go_roundw
      all_goals first | exact ⟨k + 1, _, by omega, by go_num, (by have hb_ := HBr.out; go_grown), by first | omega | (simp; omega), by simp [*, go_sem], by simp [*, go_sem], by simp [*, go_sem] <;> rfl, fun o => by simp [*, go_sem]⟩ | (simp [intOf]; omega)
    · have hd : DiceAt wr w.heap.size A c xs := ⟨lt, fz, c0, ⟨0, by omega, c1⟩, ⟨z, c2⟩, H.out.below Br (Nat.le_refl _), fun hx b off e => by
        rcases H.out.2.2 with g | ⟨b', off', e', hb', -⟩
        · exact absurd g hx
        · rw [e] at e'; simp only [Option.some.injEq, Addr.mk.injEq, and_true] at e'; omega⟩
      have HS := Lib.hid hd; clear hd
      go_wp2
      go_ret
      exact ⟨_, rfl, Nat.le_refl _, HS.out, Br⟩
end

section
set_option linter.unusedSimpArgs false
set_option linter.unusedVariables false

theorem dp_step (ds ss : List Int) (src co hy : Int) (x : Rs) (k : Nat) : dpLo ds ss src co hy x k ≤ dpLo ds ss src co hy x (k + 1) ∧ dpHi ds ss src co hy x k ≤ dpHi ds ss src co hy x (k + 1) := by
  rw [dpLo_succ, dpHi_succ]
  constructor <;> split <;> omega
theorem dp_mono (ds ss : List Int) (src co hy : Int) (x : Rs) {k m : Nat} (h : k ≤ m) : dpLo ds ss src co hy x k ≤ dpLo ds ss src co hy x m ∧ dpHi ds ss src co hy x k ≤ dpHi ds ss src co hy x m := by
  induction m with
  | zero => obtain rfl : k = 0 := by omega
            exact ⟨Int.le_refl _, Int.le_refl _⟩
  | succ m ih =>
    rcases Nat.lt_or_ge m k with g | g
    · obtain rfl : k = m + 1 := by omega
      exact ⟨Int.le_refl _, Int.le_refl _⟩
    · have a := ih g; have b := dp_step ds ss src co hy x m; omega
theorem up_le {ds ss : List Int} {src co si hy : Int} (r : RayOk ds ss src co si hy) : ∀ (n : Nat) (k : Int), 0 ≤ k → k + n < ds.length → spd ds k ≤ spd ds (k + n) := by
  intro n
  induction n with
  | zero => intro k _ _; simp
  | succ n ih =>
    intro k h0 h1
    have a := ih k h0 (by omega)
    have b := r.up (k + n) (by omega) (by have := r.l3; omega)
    have e : k + ((n + 1 : Nat) : Int) = k + n + 1 := by omega
    rw [e]; omega
theorem up_last {ds ss : List Int} {src co si hy k : Int} (r : RayOk ds ss src co si hy) (h0 : 0 ≤ k) (h1 : k < ds.length) : spd ds k ≤ spd ds ((ds.length : Int) - 1) := by
  have := up_le r ((ds.length : Int) - 1 - k).toNat k h0 (by omega)
  have e : k + (((ds.length : Int) - 1 - k).toNat : Int) = (ds.length : Int) - 1 := by omega
  rwa [e] at this
theorem dp_ok {ds ss : List Int} {src co si hy : Int} (r : RayOk ds ss src co si hy) : ∀ n : Nat, n ≤ 100 → dpLo ds ss src co hy (rs0 src si) n ≤ dpHi ds ss src co hy (rs0 src si) n ∧ dpHi ds ss src co hy (rs0 src si) n ≤ spd ds ((ds.length : Int) - 1) := by
  intro n
  induction n with
  | zero => intro _; exact ⟨Int.le_refl _, up_last r r.s0 (by have := r.s1; have := r.l2; omega)⟩
  | succ n ih =>
    intro h
    have a := ih (by omega)
    have ok := rs_at0 r n (no_limit r n (by omega)).1
    have ok2 := rs_at0 r (n + 1) (no_limit r (n + 1) h).1
    have b := up_last r ok2.k0 (by have := ok2.k1; have := r.l2; omega)
    rw [dpLo_succ, dpHi_succ]
    by_cases hv : rsEv ds ss src co hy (rsAt ds ss src co hy (rs0 src si) n) = 2
    · rw [if_pos hv, if_pos hv]
      obtain ⟨t1, t2⟩ := turn_td r ok hv
      obtain ⟨hi, hf⟩ := ev_turn hv
      obtain ⟨l0, l1⟩ := lay_bd r ok.k0 ok.k1 hi
      have h0 : rayE ds ss src co si hy 0 = 0 := rayE_zero (k := 0) r
      have ha : arcE ds ss src co si hy (layK (rsAt ds ss src co hy (rs0 src si) n).k (rsAt ds ss src co hy (rs0 src si) n).d) = 0 := by
        unfold arcE
        have : inB (layK (rsAt ds ss src co hy (rs0 src si) n).k (rsAt ds ss src co hy (rs0 src si) n).d) 0 ((ds.length : Int) - 2) = true := by have := r.l2; have := r.l3; simp [inB]; omega
        rw [if_pos h0, this, if_pos rfl]
      obtain ⟨n0, n1, f0, f1, hn, hf, -⟩ := turn_facts r ok hv
      have hva : vaE 2 ds ss src co si hy (layK (rsAt ds ss src co hy (rs0 src si) n).k (rsAt ds ss src co hy (rs0 src si) n).d) (rsAt ds ss src co hy (rs0 src si) n).d = 0 := by
        unfold vaE
        have : vdI ss src co hy (nearK (layK (rsAt ds ss src co hy (rs0 src si) n).k (rsAt ds ss src co hy (rs0 src si) n).d) (rsAt ds ss src co hy (rs0 src si) n).d) (farK (layK (rsAt ds ss src co hy (rs0 src si) n).k (rsAt ds ss src co hy (rs0 src si) n).d) (rsAt ds ss src co hy (rs0 src si) n).d) = 2 := by unfold vdI; rw [hn, hf]; rfl
        rw [if_pos ha, if_pos this]
      obtain ⟨-, -, -, b1, b2, b3⟩ := turnDepth_in hva
      rw [t1] at b1 b3; rw [t2] at b2 b3
      have b4 := up_last r (k := layK (rsAt ds ss src co hy (rs0 src si) n).k (rsAt ds ss src co hy (rs0 src si) n).d + 1) (by omega) (by have := r.l2; omega)
      omega
    · rw [if_neg hv, if_neg hv]; omega
theorem dp_src (ds ss : List Int) (src co si hy : Int) (n : Nat) : spd ds src ≤ dpLo ds ss src co hy (rs0 src si) n := (dp_mono ds ss src co hy (rs0 src si) (Nat.zero_le n)).1
end

section
set_option linter.unusedSimpArgs false
set_option linter.unusedVariables false
open Go.RowKit

theorem bcell {W w1 : World} (hb : Below W.heap.size W w1) : (∀ b o, b < W.heap.size → w1.cell? ⟨b, o, none⟩ = W.cell? ⟨b, o, none⟩) ∧ (∀ b o, b < W.heap.size → w1.frozen? ⟨b, o, none⟩ = W.frozen? ⟨b, o, none⟩) :=
  ⟨fun b o h => hb.cell (p := ⟨b, o, none⟩) h, fun b o h => hb.frozen (p := ⟨b, o, none⟩) h⟩
set_option maxRecDepth 100000 in
set_option maxHeartbeats 16000000 in
theorem lawDeepest_any (A : Option Addr) (c : Nat) (xs : List Int) (w : World) (h : BytesAt w A c xs) :
    Calls Try.prog 7 #[.slice A xs.length c] w fun e w' => e = .returned (.bool true) ∧ Below w.heap.size w w' := by
  have hn := Nat.le_trans h.1 h.2.1
  have H := Lib.hid h; clear h
  by_cases hbig : (4096 : Int) < xs.length
  · go_enter Try.func7, Try.ntmps7
    go_wp2_with (go_at_call 25; refine (big_any _ _ _ _ hn).mono ?_; rintro e w' ⟨rfl, rfl⟩)
    go_ret
    exact ⟨rfl, Below.refl _ _⟩
  · go_enter Try.func7, Try.ntmps7
    go_wp2_with (go_at_call 25; refine (big_any _ _ _ _ hn).mono ?_; rintro e w' ⟨rfl, rfl⟩)
    refine (drawDeepestOf_any A c xs _ H.out).mono ?_
    rintro e w3 ⟨⟨A1, c1, A2, c2, ts, ls, src, co, si, hy, n, rfl, rp⟩, hb3⟩
    have P := Lib.hid rp.at; clear rp
    have HX := Lib.hid (H.out.below hb3 (Nat.le_refl _))
    have B3 := Lib.hid hb3; clear hb3
    by_cases hc : trCo ts ls src co si hy n = 0
    · obtain ⟨r, m, rfl, hm, hr⟩ := trCo_zero hc
      obtain ⟨eL, eX⟩ := de_ok hc
      obtain ⟨f1, f3⟩ := dp_ok r m hm
      have f2 := dp_src ts ls src co si hy m
      have MO := Lib.hid (fun (k : Nat) (h : k ≤ m) => dp_mono ts ls src co hy (rs0 src si) h)
      obtain ⟨zl, hzl⟩ : ∃ x, dpLo ts ls src co hy (rs0 src si) m = x := ⟨_, rfl⟩
      obtain ⟨zh, hzh⟩ : ∃ x, dpHi ts ls src co hy (rs0 src si) m = x := ⟨_, rfl⟩
      rw [hzl] at f1 f2 eL; rw [hzh] at f1 f3 eX
      rw [hzl, hzh] at MO
      have DI := Lib.hid (show ∀ w, ProfAt w A1 c1 A2 c2 ts ls → Calls Try.prog 20 #[profV A1 ts.length c1 A2 ls.length c2, .int .i64 src, dirV co si hy, .int .i64 (m : Int)] w fun e w' => e = .returned (.tuple #[ivV zl zh, .int .i64 0]) ∧ Below w.heap.size w w' from fun w h => by have q := implDeepestOf_any A1 A2 c1 c2 ts ls src co si hy m w h; rw [eL, eX, hc] at q; exact q)
      have DS := Lib.hid (show ∀ w, ProfAt w A1 c1 A2 c2 ts ls → Calls Try.prog 19 #[profV A1 ts.length c1 A2 ls.length c2, .int .i64 src, dirV co si hy, .int .i64 (m : Int)] w fun e w' => e = .returned (.tuple #[ivV zl zh, .int .i64 0]) ∧ Below w.heap.size w w' from fun w h => by have q := specDeepestOf_any A1 A2 c1 c2 ts ls src co si hy m w h; rw [eL, eX, hc] at q; exact q)
      have DK := Lib.hid (show ∀ (k : Int), 0 ≤ k → k < (m : Int) + 1 → ∃ a b : Int, a ≤ zl ∧ b ≤ zh ∧ ∀ w, ProfAt w A1 c1 A2 c2 ts ls → Calls Try.prog 20 #[profV A1 ts.length c1 A2 ls.length c2, .int .i64 src, dirV co si hy, .int .i64 k] w fun e w' => e = .returned (.tuple #[ivV a b, .int .i64 0]) ∧ Below w.heap.size w w' from fun k h0 h1 => by
        obtain ⟨j, rfl⟩ := Int.eq_ofNat_of_zero_le h0
        have g := MO.out j (by omega)
        exact ⟨_, _, g.1, g.2, fun w h => implDeepestOf_ok A1 A2 c1 c2 ts ls src co si hy j w h r (by omega) (no_limit r j (by omega)).1⟩)
      have rs0 := r.s0; have rs1 := r.s1; have rl0 := r.l0; have rl1 := r.l1; have rl2 := r.l2; have rl3 := r.l3; have rc0 := r.c0; have rc1 := r.c1; have rh1 := r.h1
      clear hr hc eL eX hzl hzh MO
      go_wp2_with fail
      refine (DI.out _ (P.out.below (B := w3.heap.size) (by first | exact Below.refl _ _ | (go_grown; done) | exact bdrewN (by go_grown) _) (Nat.le_refl _))).mono ?_
      rintro e w4 ⟨rfl, hb4⟩
      have P := Lib.hid (((P.out).below (B := w3.heap.size) (by first | exact Below.refl _ _ | (go_grown; done) | exact bdrewN (by go_grown) _) (Nat.le_refl _)).below hb4 (Nat.le_refl _))
      have HX := Lib.hid (((HX.out).below (B := w3.heap.size) (by first | exact Below.refl _ _ | (go_grown; done) | exact bdrewN (by go_grown) _) (Nat.le_refl _)).below hb4 (Nat.le_refl _))
      obtain ⟨B4, hz4, q4, s4, t4, x4, y4, z4⟩ := bkeep (w := w3) [w3.heap.size, w3.heap.size + 1] (by first | (simp; done) | (simp; omega)) (by first | (go_grown; done) | exact bdrewN (by go_grown) _) hb4; (try simp at hz4); clear hb4
      go_wp2_with fail
      refine (DS.out _ (P.out.below (B := w4.heap.size) (by first | exact Below.refl _ _ | (go_grown; done) | exact bdrewN (by go_grown) _) (Nat.le_refl _))).mono ?_
      rintro e w5 ⟨rfl, hb5⟩
      have P := Lib.hid (((P.out).below (B := w4.heap.size) (by first | exact Below.refl _ _ | (go_grown; done) | exact bdrewN (by go_grown) _) (Nat.le_refl _)).below hb5 (Nat.le_refl _))
      have HX := Lib.hid (((HX.out).below (B := w4.heap.size) (by first | exact Below.refl _ _ | (go_grown; done) | exact bdrewN (by go_grown) _) (Nat.le_refl _)).below hb5 (Nat.le_refl _))
      obtain ⟨B5, hz5, q5, s5, t5, x5, y5, z5⟩ := bkeep (w := w3) [w3.heap.size, w3.heap.size + 1, w4.heap.size] (by first | (simp; done) | (simp; omega)) (by first | (go_grown; done) | exact bdrewN (by go_grown) _) hb5; (try simp at hz5); clear hb5
      go_upto_region 10 with fail
      refine genS (S := fun w' => Below w3.heap.size w3 w' ∧ w3.heap.size < w'.heap.size ∧ w3.heap.size + 1 < w'.heap.size ∧ w4.heap.size < w'.heap.size ∧ w'.cell? ⟨w3.heap.size, 0, none⟩ = some (.slice A1 (List.length ts) c1) ∧ w'.cell? ⟨w3.heap.size, 1, none⟩ = some (.slice A2 (List.length ls) c2) ∧ w'.cell? ⟨w3.heap.size + 1, 0, none⟩ = some (.int .i64 co) ∧ w'.cell? ⟨w3.heap.size + 1, 1, none⟩ = some (.int .i64 si) ∧ w'.cell? ⟨w3.heap.size + 1, 2, none⟩ = some (.int .i64 hy) ∧ w'.cell? ⟨w4.heap.size, 0, none⟩ = some (.int .i64 zl) ∧ w'.cell? ⟨w4.heap.size, 1, none⟩ = some (.int .i64 zh) ∧ ProfAt w' A1 c1 A2 c2 ts ls ∧ BytesAt w' A c xs) ⟨(by first | exact B5 | exact bdrewN B5 _ | exact bdrewN (bdrewN B5 _) _ | (go_grown; done) | (go_grown <;> exact bdrewN B5 _)), by first | omega | (simp; done) | (simp; omega), by first | omega | (simp; done) | (simp; omega), by first | omega | (simp; done) | (simp; omega), by simp [*, go_sem], by simp [*, go_sem], by simp [*, go_sem], by simp [*, go_sem], by simp [*, go_sem], by simp [*, go_sem], by simp [*, go_sem], (P.out).below (B := w5.heap.size) (by first | exact Below.refl _ _ | exact bdrewN (Below.refl _ _) _ | exact bdrewN (bdrewN (Below.refl _ _) _) _ | (go_grown; done) | exact bdrewN (by go_grown) _) (Nat.le_refl _), (HX.out).below (B := w5.heap.size) (by first | exact Below.refl _ _ | exact bdrewN (Below.refl _ _) _ | exact bdrewN (bdrewN (Below.refl _ _) _) _ | (go_grown; done) | exact bdrewN (by go_grown) _) (Nat.le_refl _)⟩ ?_
      clear q4 s4 t4 x4 y4 z4 hz4 q5 s5 t5 x5 y5 z5 hz5
      rintro w6 ⟨B6, lt6_0, lt6_1, lt6_2, c6_0, c6_1, c6_2, c6_3, c6_4, c6_5, c6_6, rr_P, rr_HX⟩
      have P := Lib.hid rr_P; clear rr_P
      have HX := Lib.hid rr_HX; clear rr_HX
      have wm : IntKind.i64.wrap ((m : Int) + 1) = (m : Int) + 1 := IntWalk.i64_in _ (by omega)
      have B6_ := Lib.hid B6; clear B6
      have le0 : w3.heap.size ≤ w6.heap.size := by omega
      have le1 : w3.heap.size + 1 ≤ w6.heap.size := by omega
      have le2 : w4.heap.size ≤ w6.heap.size := by omega
      go_cut [11, 12] (fun p1 c1_ wx => ∃ rb1 a b, p1 = .pointer (some ⟨rb1, 0, none⟩) ∧ c1_ = .int .i64 0 ∧ Below w6.heap.size w6 wx ∧ w6.heap.size ≤ rb1 ∧ rb1 < wx.heap.size ∧ a ≤ zl ∧ b ≤ zh ∧ wx.cell? ⟨rb1, 0, none⟩ = some (.int .i64 a) ∧ wx.cell? ⟨rb1, 1, none⟩ = some (.int .i64 b))
      case first =>
        go_region_held3 (fun w' => w'.cell? ⟨w3.heap.size, 0, none⟩ = some (.slice A1 (List.length ts) c1) ∧ w'.cell? ⟨w3.heap.size, 1, none⟩ = some (.slice A2 (List.length ls) c2) ∧ w'.cell? ⟨w3.heap.size + 1, 0, none⟩ = some (.int .i64 co) ∧ w'.cell? ⟨w3.heap.size + 1, 1, none⟩ = some (.int .i64 si) ∧ w'.cell? ⟨w3.heap.size + 1, 2, none⟩ = some (.int .i64 hy)) (first | (go_keep; done) | (simp [*, go_sem]; done))
          (first
            | (go_at_call 28; refine (below_any D A c xs _ _ (DD.out.below (B := w7.heap.size) (by first | exact Below.refl _ _ | (go_grown; done)) lD) (by omega) (by omega)).mono ?_; rintro e w8 ⟨⟨r_, rfl, r0_, r1_⟩, -, ch8⟩; obtain ⟨a, b, ga, gb, DC⟩ := DK.out r_ r0_ r1_; have DQ := Lib.hid DC; clear DC; have hc8 := (fun (b o : Nat) (h : b ≠ D) => ch8.far_ (o := o) h); have hf8 := (fun (b o : Nat) (h : b ≠ D) => ch8.farF (o := o) h); have hz8 := Nat.le_of_eq ch8.size.symm; (try simp only [World.size_alloc, World.size_drew, size_set] at hz8); have ly8_0 : w3.heap.size < w8.heap.size := (by omega); have lx8_0 : w3.heap.size ≤ w8.heap.size := (by omega); have nD0 : (w3.heap.size = D) = False := eq_false (by omega); have ly8_1 : w3.heap.size + 1 < w8.heap.size := (by omega); have lx8_1 : w3.heap.size + 1 ≤ w8.heap.size := (by omega); have nD1 : (w3.heap.size + 1 = D) = False := eq_false (by omega); have ly8_2 : w4.heap.size < w8.heap.size := (by omega); have lx8_2 : w4.heap.size ≤ w8.heap.size := (by omega); have nD2 : (w4.heap.size = D) = False := eq_false (by omega); (try have nD6 : (w6.heap.size = D) = False := eq_false (by omega)); (try have nD7 : (w7.heap.size = D) = False := eq_false (by omega)); (try have ll8_6 : w6.heap.size < w8.heap.size := (by omega)); (try have ll8_7 : w7.heap.size < w8.heap.size := (by omega)); have BB := Lib.hid ((BB.out.trans (show Below w6.heap.size w7 _ from Below.mono (B := w7.heap.size) (by first | exact Below.refl _ _ | (go_grown; done)) (by omega))).trans (ch8.below (by omega))); clear ch8)
            | (go_at_call 27; refine (roll_any A c xs _ _ (HX.out.below (B := w6.heap.size) (by first | exact Below.refl _ _ | (go_grown; done)) (Nat.le_refl _))).mono ?_; rintro e w7 ⟨D, rfl, hD, dd, hb7⟩; (try simp only [World.size_alloc, World.size_drew, size_set] at hD); obtain ⟨hc7, hf7⟩ := bcell hb7; have hz7 := hb7.size; (try simp only [World.size_alloc, World.size_drew, size_set] at hz7); (try simp only [World.size_alloc, World.size_drew, size_set] at hc7); (try simp only [World.size_alloc, World.size_drew, size_set] at hf7); have ly7_0 : w3.heap.size < w7.heap.size := (by omega); have ly7_1 : w3.heap.size + 1 < w7.heap.size := (by omega); have ly7_2 : w4.heap.size < w7.heap.size := (by omega); have lx7_0 : w3.heap.size ≤ w7.heap.size := (by omega); have lx7_1 : w3.heap.size + 1 ≤ w7.heap.size := (by omega); have lx7_2 : w4.heap.size ≤ w7.heap.size := (by omega); (try have ll7_6 : w6.heap.size < w7.heap.size := (by omega)); have DD := Lib.hid dd; have lD := dd.lt; clear dd; have BB := Lib.hid ((show Below w6.heap.size w6 _ from (by first | exact Below.refl _ _ | (go_grown; done))).trans (hb7.mono (by first | omega | (simp; done) | (simp; omega)))); clear hb7)
            | (go_at_call 20; refine (DQ.out _ ((P.out.below BB.out (Nat.le_refl _)).below (B := w8.heap.size) (by first | exact Below.refl _ _ | (go_grown; done)) (Nat.le_refl _))).mono ?_; rintro e w9 ⟨rfl, hb9⟩; obtain ⟨hc9, hf9⟩ := bcell hb9; have hz9 := hb9.size; (try simp only [World.size_alloc, World.size_drew, size_set] at hz9); (try simp only [World.size_alloc, World.size_drew, size_set] at hc9); (try simp only [World.size_alloc, World.size_drew, size_set] at hf9); have ly9_0 : w3.heap.size < w9.heap.size := (by omega); have ly9_1 : w3.heap.size + 1 < w9.heap.size := (by omega); have ly9_2 : w4.heap.size < w9.heap.size := (by omega); have lx9_0 : w3.heap.size ≤ w9.heap.size := (by omega); have lx9_1 : w3.heap.size + 1 ≤ w9.heap.size := (by omega); have lx9_2 : w4.heap.size ≤ w9.heap.size := (by omega); (try have ll9_6 : w6.heap.size < w9.heap.size := (by omega)); (try have ll9_7 : w7.heap.size < w9.heap.size := (by omega)); (try have ll9_8 : w8.heap.size < w9.heap.size := (by omega)); have BB := Lib.hid ((BB.out.trans (show Below w6.heap.size w8 _ from Below.mono (B := w8.heap.size) (by first | exact Below.refl _ _ | (go_grown; done)) (by omega))).trans (hb9.mono (by first | omega | (simp; done) | (simp; omega)))); clear hb9))
        all_goals go_wp2_with fail
        all_goals go_meet
        all_goals exact ⟨_, a, b, rfl, rfl, (by have hb_ := BB.out; first | exact hb_ | (go_grown; done)), by first | omega | (simp; omega), by first | omega | (simp; done) | (simp; omega), ga, gb, by simp [*, go_sem], by simp [*, go_sem]⟩
      case rest =>
        obtain ⟨rb1, a, b, rfl, rfl, hF⟩ := hcut
        revert hF; generalize wc = w10; rintro ⟨hb10, lo10, hi10, ga, gb, cc0, cc1⟩
        have e0 := (bAt hb10 (b := w3.heap.size) (o := 0) (by omega)).trans c6_0
        have e1 := (bAt hb10 (b := w3.heap.size) (o := 1) (by omega)).trans c6_1
        have e2 := (bAt hb10 (b := w3.heap.size + 1) (o := 0) (by omega)).trans c6_2
        have e3 := (bAt hb10 (b := w3.heap.size + 1) (o := 1) (by omega)).trans c6_3
        have e4 := (bAt hb10 (b := w3.heap.size + 1) (o := 2) (by omega)).trans c6_4
        have e5 := (bAt hb10 (b := w4.heap.size) (o := 0) (by omega)).trans c6_5
        have e6 := (bAt hb10 (b := w4.heap.size) (o := 1) (by omega)).trans c6_6
        have P := Lib.hid (P.out.below hb10 (Nat.le_refl _)); have B10 := Lib.hid (B6_.out.trans (hb10.mono (by have := B6_.out.size; omega))); clear hb10
        obtain ⟨j, rfl⟩ := Int.eq_ofNat_of_zero_le rs0
        obtain ⟨b1, o1, rfl, hb1, q1⟩ := P.out.1.spd (by omega)
        obtain ⟨L, hL⟩ : ∃ L : Nat, L = ts.length - 1 := ⟨_, rfl⟩
        have eL : (ts.length : Int) - 1 = (L : Int) := by omega
        rw [eL] at f3
        have d0 := q1 j (by omega); have d1 := q1 L (by omega)
        generalize spd ts j = x0 at *
        generalize spd ts L = x1 at *
        have jj0 : (0 : Int) ≤ j := by omega
        have jj1 : (j : Int) < ts.length := by omega
        have ll0 : (0 : Int) ≤ L := by omega
        have ll1 : (L : Int) < ts.length := by omega
        have wL : IntKind.i64.wrap ((ts.length : Int) - 1) = (L : Int) := by rw [eL]; exact IntWalk.i64_in _ (by omega)
        clear hL eL q1
        have dd0 : decide (zl ≤ zh) = true := decide_eq_true (by omega)
        have dd1 : decide (x0 ≤ zl) = true := decide_eq_true (by omega)
        have dd2 : decide (zh ≤ x1) = true := decide_eq_true (by omega)
        have dd3 : decide (a ≤ zl) = true := decide_eq_true (by omega)
        have dd4 : decide (b ≤ zh) = true := decide_eq_true (by omega)
        clear c6_0 c6_1 c6_2 c6_3 c6_4 c6_5 c6_6
        go_wp2_with fail
        go_quiet (fail)
        clear wL
        go_wp2
        go_ret
        exact ⟨ret_bool (by first | rfl | (simp; done) | (simp; omega)), B3.out.trans ((show Below w3.heap.size w3 _ by have hb_ := B10.out; first | exact hb_ | exact bdrewN hb_ _ | (go_grown; done)).mono B3.out.size)⟩
    · have hc2 : (trCo ts ls src co si hy n != 0) = true := by simpa using hc
      go_wp2_with fail
      refine (implDeepestOf_any _ _ _ _ _ _ _ _ _ _ _ _ (P.out.below (B := w3.heap.size) (by first | exact Below.refl _ _ | (go_grown; done) | exact bdrewN (by go_grown) _) (Nat.le_refl _))).mono ?_
      rintro e w4 ⟨rfl, hb4⟩
      have P := Lib.hid (((P.out).below (B := w3.heap.size) (by first | exact Below.refl _ _ | (go_grown; done) | exact bdrewN (by go_grown) _) (Nat.le_refl _)).below hb4 (Nat.le_refl _))
      have HX := Lib.hid (((HX.out).below (B := w3.heap.size) (by first | exact Below.refl _ _ | (go_grown; done) | exact bdrewN (by go_grown) _) (Nat.le_refl _)).below hb4 (Nat.le_refl _))
      obtain ⟨B4, hz4, q4, s4, t4, x4, y4, z4⟩ := bkeep (w := w3) [w3.heap.size, w3.heap.size + 1] (by first | (simp; done) | (simp; omega)) (by first | (go_grown; done) | exact bdrewN (by go_grown) _) hb4; (try simp at hz4); clear hb4
      go_wp2_with fail
      refine (specDeepestOf_any _ _ _ _ _ _ _ _ _ _ _ _ (P.out.below (B := w4.heap.size) (by first | exact Below.refl _ _ | (go_grown; done) | exact bdrewN (by go_grown) _) (Nat.le_refl _))).mono ?_
      rintro e w5 ⟨rfl, hb5⟩
      have P := Lib.hid (((P.out).below (B := w4.heap.size) (by first | exact Below.refl _ _ | (go_grown; done) | exact bdrewN (by go_grown) _) (Nat.le_refl _)).below hb5 (Nat.le_refl _))
      have HX := Lib.hid (((HX.out).below (B := w4.heap.size) (by first | exact Below.refl _ _ | (go_grown; done) | exact bdrewN (by go_grown) _) (Nat.le_refl _)).below hb5 (Nat.le_refl _))
      obtain ⟨B5, hz5, q5, s5, t5, x5, y5, z5⟩ := bkeep (w := w3) [w3.heap.size, w3.heap.size + 1, w4.heap.size] (by first | (simp; done) | (simp; omega)) (by first | (go_grown; done) | exact bdrewN (by go_grown) _) hb5; (try simp at hz5); clear hb5
      go_wp2
      go_ret
      exact ⟨rfl, B3.out.trans (Below.mono (show Below w3.heap.size w3 _ by first | exact B5 | (go_grown; done) | exact bdrewN B5 _ | exact bdrewN (by go_grown) _ | (go_grown <;> exact bdrewN B5 _)) B3.out.size)⟩
end
end Go.Proofs.Ytopggkomkfjbfaa
