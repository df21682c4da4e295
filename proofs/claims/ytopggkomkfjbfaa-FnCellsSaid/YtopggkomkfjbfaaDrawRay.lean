/- The draw of a ray. -/
import Derived.Test.YtopggkomkfjbfaaDrawKnot
import Derived.Test.YtopggkomkfjbfaaDrawDir
namespace Go.Proofs.Ytopggkomkfjbfaa
set_option linter.unusedSimpArgs false
set_option linter.unusedVariables false
open Go.RowKit

set_option maxRecDepth 100000 in
set_option maxHeartbeats 8000000 in
theorem l05DrawRay_any (S : Nat) (A : Option Addr) (c : Nat) (xs : List Int) (w : World) (h : SrcAt w S A c xs) :
    Calls Try.prog 109 #[.pointer (some ⟨S, 0, none⟩)] w fun e w' => (∃ A1 c1 A2 c2 ts ls k a b g, e = .returned (.tuple #[profV A1 (List.length ts) c1 A2 (List.length ls) c2, .int .i64 k, dirV a b g]) ∧ ResP w' w.heap.size w'.heap.size A1 c1 A2 c2 ts ls ∧ 2 ≤ ts.length ∧ ts.length ≤ 13) ∧ SrcAt w' S A c xs ∧ ChgB S (S + 1) w w' := by
  have ltS := h.lt
  have SS := Lib.hid h; have CC := Lib.hid (ChgB.refl S (S + 1) w); clear h
  have nS0 : w.heap.size ≠ S := by omega
  have nS1 : S ≠ w.heap.size := by omega
  have nS2 : w.heap.size + 1 ≠ S := by omega
  have nS3 : S ≠ w.heap.size + 1 := by omega
  go_enter Try.func109, Try.ntmps109
  go_upto_region 2 with (go_at_call 112; refine (l04DrawKnot_any S A c xs _ (SS.out.keepS (by repeat' (first | with_reducible exact Keep.refl _ _ _ | with_reducible refine Keep.setB ?_ ?_ _ | with_reducible refine Keep.alloc ?_ ?_ _ | with_reducible refine Keep.drew ?_ | omega | (simp; done) | (simp; omega))))).mono ?_; rintro e w2 ⟨⟨A1, c1, A2, c2, ts, ls, kk, rfl, rp, h1, h2⟩, s2', ch2⟩; have CC := Lib.hid ((show ChgB S (S + 1) w _ from (by repeat' (first | with_reducible exact CC.out | with_reducible exact ChgB.refl _ _ _ | with_reducible refine ChgB.setB ?_ ?_ _ | with_reducible refine ChgB.alloc ?_ _ | with_reducible refine ChgB.drew ?_ | with_reducible refine ChgB.drewN ?_ _ | omega | (simp; done) | (simp; omega)))).trans ch2); have SS := Lib.hid s2'; obtain ⟨z2, q2, f2, x2, y2⟩ := ckeepB [w.heap.size, w.heap.size + 1] (by first | (simp; done) | (simp; omega)) ch2; (try simp only [World.size_alloc, World.size_drew, size_set] at z2); clear s2' ch2; have l2_0 := x2 (w.heap.size) (by simp); have l2_1 := x2 (w.heap.size + 1) (by simp); have RP := Lib.hid rp; clear rp)
  obtain ⟨naa1, nab1, naa2, nab2⟩ : w.heap.size ≠ w2.heap.size ∧ w2.heap.size ≠ w.heap.size ∧ w.heap.size + 1 ≠ w2.heap.size ∧ w2.heap.size ≠ w.heap.size + 1 := by
    refine ⟨?_, ?_, ?_, ?_⟩ <;> omega
  have sA2_0 : S ≠ w2.heap.size := by omega
  have sB2_0 : w2.heap.size ≠ S := by omega
  have sC2_0 : S < w2.heap.size := by omega
  have sD2_0 : w.heap.size ≤ w2.heap.size := by omega
  have RP : Hid (ResP _ (w.heap.size + 1 + 1) w2.heap.size A1 c1 A2 c2 ts ls) := Lib.hid (RP.out.mono (by first | (simp; done) | (simp; omega)) (Nat.le_refl _))
  refine genS (S := fun w' => w.heap.size < w'.heap.size ∧ w.heap.size + 1 < w'.heap.size ∧ w2.heap.size < w'.heap.size ∧ w'.cell? ⟨w.heap.size, 0, none⟩ = some (.slice none 0 0) ∧ w'.cell? ⟨w.heap.size, 1, none⟩ = some (.slice none 0 0) ∧ w'.cell? ⟨w.heap.size + 1, 0, none⟩ = some (.int .i64 0) ∧ w'.cell? ⟨w.heap.size + 1, 1, none⟩ = some (.int .i64 0) ∧ w'.cell? ⟨w.heap.size + 1, 2, none⟩ = some (.int .i64 0) ∧ w'.cell? ⟨w2.heap.size, 0, none⟩ = some (.slice A1 (List.length ts) c1) ∧ w'.cell? ⟨w2.heap.size, 1, none⟩ = some (.slice A2 (List.length ls) c2) ∧ (∀ o, w'.frozen? ⟨w.heap.size, o, none⟩ = false) ∧ (∀ o, w'.frozen? ⟨w.heap.size + 1, o, none⟩ = false) ∧ ChgB S (S + 1) w w' ∧ SrcAt w' S A c xs ∧ ResP w' (w.heap.size + 1 + 1) w2.heap.size A1 c1 A2 c2 ts ls) ⟨by first | omega | (simp; done) | (simp; omega), by first | omega | (simp; done) | (simp; omega), by first | omega | (simp; done) | (simp; omega), by simp [*, go_sem], by simp [*, go_sem], by simp [*, go_sem], by simp [*, go_sem], by simp [*, go_sem], by simp [*, go_sem], by simp [*, go_sem], fun o => by simp [*, go_sem], fun o => by simp [*, go_sem], (by repeat' (first | with_reducible exact CC.out | with_reducible exact ChgB.refl _ _ _ | with_reducible refine ChgB.setB ?_ ?_ _ | with_reducible refine ChgB.alloc ?_ _ | with_reducible refine ChgB.drew ?_ | with_reducible refine ChgB.drewN ?_ _ | omega | (simp; done) | (simp; omega))), SS.out.keepS (by repeat' (first | with_reducible exact Keep.refl _ _ _ | with_reducible refine Keep.setB ?_ ?_ _ | with_reducible refine Keep.alloc ?_ ?_ _ | with_reducible refine Keep.drew ?_ | omega | (simp; done) | (simp; omega))), RP.out.kept (by repeat' (first | with_reducible exact Keep.refl _ _ _ | with_reducible refine Keep.setB ?_ ?_ _ | with_reducible refine Keep.alloc ?_ ?_ _ | with_reducible refine Keep.drew ?_ | omega | (simp; done) | (simp; omega)))⟩ ?_
  clear z2 q2 f2 x2 y2 l2_0 l2_1
  rintro w3 ⟨lt3_0, lt3_1, lt3_2, c3_0, c3_1, c3_2, c3_3, c3_4, c3_5, c3_6, fz3_0, fz3_1, cc, ss, rr_RP⟩
  have CC := Lib.hid cc; have SS := Lib.hid ss; have RP := Lib.hid rr_RP; clear cc ss rr_RP
  go_region_held3 (fun w' => w'.cell? ⟨w2.heap.size, 0, none⟩ = some (.slice A1 (List.length ts) c1) ∧ w'.cell? ⟨w2.heap.size, 1, none⟩ = some (.slice A2 (List.length ls) c2)) (first | (go_keep; done) | (simp [*, go_sem]; done))
    (first
      | (go_at_call 114; refine (l05Draw_any S A c xs _ (SS.out.keepS (by repeat' (first | with_reducible exact Keep.refl _ _ _ | with_reducible refine Keep.setB ?_ ?_ _ | with_reducible refine Keep.alloc ?_ ?_ _ | with_reducible refine Keep.drew ?_ | omega | (simp; done) | (simp; omega))))).mono ?_; rintro e w4 ⟨⟨da, db, dg, rfl⟩, s4', ch4⟩; have CC := Lib.hid ((show ChgB S (S + 1) w _ from (by repeat' (first | with_reducible exact CC.out | with_reducible exact ChgB.refl _ _ _ | with_reducible refine ChgB.setB ?_ ?_ _ | with_reducible refine ChgB.alloc ?_ _ | with_reducible refine ChgB.drew ?_ | with_reducible refine ChgB.drewN ?_ _ | omega | (simp; done) | (simp; omega)))).trans ch4); have RP := Lib.hid (RP.out.keepB (by repeat' (first | with_reducible exact Keep.refl _ _ _ | with_reducible refine Keep.setB ?_ ?_ _ | with_reducible refine Keep.alloc ?_ ?_ _ | with_reducible refine Keep.drew ?_ | omega | (simp; done) | (simp; omega))) ch4 (by omega) (by first | omega | (simp; done) | (simp; omega))); have SS := Lib.hid s4'; obtain ⟨z4, q4, f4, x4, y4⟩ := ckeepB [w.heap.size, w.heap.size + 1, w2.heap.size] (by first | (simp; done) | (simp; omega)) ch4; (try simp only [World.size_alloc, World.size_drew, size_set] at z4); clear s4' ch4; have l4_0 := x4 (w.heap.size) (by simp); have l4_1 := x4 (w.heap.size + 1) (by simp); have l4_2 := x4 (w2.heap.size) (by simp)))
  all_goals go_wp2
  all_goals refine bodyPost_ret (by simp [results, Try.results109, go_sem, *] <;> rfl) rfl ?_
  all_goals exact ⟨⟨_, _, _, _, ts, ls, _, _, _, _, rfl, ResP.mono (RP.out.kept (by repeat' (first | with_reducible exact Keep.refl _ _ _ | with_reducible refine Keep.setB ?_ ?_ _ | with_reducible refine Keep.alloc ?_ ?_ _ | with_reducible refine Keep.drew ?_ | omega | (simp; done) | (simp; omega)))) (by first | omega | (simp; done) | (simp; omega)) (by first | omega | (simp; done) | (simp; omega)), h1, h2⟩, SS.out.keepS (by repeat' (first | with_reducible exact Keep.refl _ _ _ | with_reducible refine Keep.setB ?_ ?_ _ | with_reducible refine Keep.alloc ?_ ?_ _ | with_reducible refine Keep.drew ?_ | omega | (simp; done) | (simp; omega))), (by repeat' (first | with_reducible exact CC.out | with_reducible exact ChgB.refl _ _ _ | with_reducible refine ChgB.setB ?_ ?_ _ | with_reducible refine ChgB.alloc ?_ _ | with_reducible refine ChgB.drew ?_ | with_reducible refine ChgB.drewN ?_ _ | omega | (simp; done) | (simp; omega)))⟩
end Go.Proofs.Ytopggkomkfjbfaa
