/- Texts in one: DrawDist, DrawAll, Fan, FanC, CellV, FanV, OpC. -/
import Derived.Test.YtopggkomkfjbfaaGreatOcA
import Derived.Test.YtopggkomkfjbfaaGreatTraceRay
import Derived.Test.YtopggkomkfjbfaaGreatDir
import Derived.Test.YtopggkomkfjbfaaGreatOwnK
import Derived.Test.YtopggkomkfjbfaaGreatApp
import Derived.Deep.QuietTactic
import Derived.BigQuiet
import Derived.BigRegion
import Derived.Deep.RegionHeld3
import Derived.Test.YtopggkomkfjbfaaGreatVdc
import Derived.Test.YtopggkomkfjbfaaGreatCellR
import Derived.Deep.Cut
import Derived.Deep.DeepCutAuto
import Derived.IntWalk
namespace Go.Proofs.YtopggkomkfjbfaaGreat
section
set_option linter.unusedSimpArgs false
set_option linter.unusedVariables false
open Go.RowKit

set_option maxRecDepth 100000 in
set_option maxHeartbeats 8000000 in
theorem l08DrawDistance_any (S : Nat) (A : Option Addr) (c : Nat) (xs : List Int) (A1 A2 : Option Addr) (c1 c2 : Nat) (ts ls : List Int) (src co si hy n : Int) (w : World) (h : SrcAt w S A c xs) (hp : ProfAt w A1 c1 A2 c2 ts ls) :
    Calls Tryz.prog 38 #[.pointer (some ⟨S, 0, none⟩), profV A1 (List.length ts) c1 A2 (List.length ls) c2, .int .i64 src, dirV co si hy, .int .i64 n] w fun e w' => (∃ k z, e = .returned (.tuple #[.int .i64 k, .int .i64 z])) ∧ SrcAt w' S A c xs ∧ ChgB S (S + 1) w w' := by
  have ltS := h.lt
  have hn63 := Nat.le_trans hp.1.1 hp.1.2.1
  have SS := Lib.hid h; have CC := Lib.hid (ChgB.refl S (S + 1) w); have HP := Lib.hid hp; clear h hp
  have TR := fun w h => specTraceRay_any A1 A2 c1 c2 ts ls src co si hy n w h
  obtain ⟨⟨xk, xd, xl, xh⟩, hX⟩ : ∃ x : Rs, trX ts ls src co si hy n = x := ⟨_, rfl⟩
  obtain ⟨E, hE⟩ : ∃ x, trCo ts ls src co si hy n = x := ⟨_, rfl⟩
  rw [hX, hE] at TR
  dsimp only at TR
  have TR := Lib.hid TR
  clear hX hE
  have n_0 : w.heap.size ≠ S := by omega
  have m_0 : S ≠ w.heap.size := by omega
  have n_1 : w.heap.size + 1 ≠ S := by omega
  have m_1 : S ≠ w.heap.size + 1 := by omega
  go_enter Tryz.func38, Tryz.ntmps38
  go_wp2_with fail
  refine (TR.out _ (HP.out.below (B := w.heap.size) (by first | exact Below.refl _ _ | (go_grown; done)) (Nat.le_refl _))).mono ?_; rintro e w2 ⟨⟨At, ct, rfl, -⟩, hb2⟩; have s2' := (SS.out.keepS (by repeat' (first | with_reducible exact Keep.refl _ _ _ | with_reducible refine Keep.setB ?_ ?_ _ | with_reducible refine Keep.alloc ?_ ?_ _ | with_reducible refine Keep.drew ?_ | omega | (simp; done) | (simp; omega)))).below hb2 (by first | omega | (simp; done) | (simp; omega)); have ch2 : ChgB S (S + 1) _ _ := ChgB.of_below hb2; clear hb2; have CC := Lib.hid ((show ChgB S (S + 1) w _ from (by repeat' (first | with_reducible exact CC.out | with_reducible exact ChgB.refl _ _ _ | with_reducible refine ChgB.setB ?_ ?_ _ | with_reducible refine ChgB.alloc ?_ _ | with_reducible refine ChgB.drew ?_ | with_reducible refine ChgB.drewN ?_ _ | omega | (simp; done) | (simp; omega)))).trans ch2); have SS := Lib.hid s2'; obtain ⟨z2, q2, f2, x2, y2⟩ := ckeepB [w.heap.size, w.heap.size + 1] (by first | (simp; done) | (simp; omega)) ch2; (try simp only [World.size_alloc, World.size_drew, size_set] at z2); clear s2' ch2; have l2_0 := x2 (w.heap.size) (by simp); have l2_1 := x2 (w.heap.size + 1) (by simp)
  obtain ⟨naa1, nab1, naa2, nab2⟩ : (w.heap.size = w2.heap.size) = False ∧ (w2.heap.size = w.heap.size) = False ∧ (w.heap.size + 1 = w2.heap.size) = False ∧ (w2.heap.size = w.heap.size + 1) = False := by
    refine ⟨?_, ?_, ?_, ?_⟩ <;> exact eq_false (by omega)
  have sA2_0 : S ≠ w2.heap.size := by omega
  have sB2_0 : w2.heap.size ≠ S := by omega
  have sC2_0 : S < w2.heap.size := by omega
  have sD2_0 : w.heap.size ≤ w2.heap.size := by omega
  go_upto_region 3 with fail
  refine genS (S := fun w' => w.heap.size < w'.heap.size ∧ w.heap.size + 1 < w'.heap.size ∧ w2.heap.size < w'.heap.size ∧ w'.cell? ⟨w2.heap.size, 0, none⟩ = some (.int .i64 xk) ∧ w'.cell? ⟨w2.heap.size, 1, none⟩ = some (.bool xd) ∧ w'.cell? ⟨w2.heap.size, 2, none⟩ = some (.int .i64 xl) ∧ w'.cell? ⟨w2.heap.size, 3, none⟩ = some (.int .i64 xh) ∧ ChgB S (S + 1) w w' ∧ SrcAt w' S A c xs) ⟨by first | omega | (simp; done) | (simp; omega), by first | omega | (simp; done) | (simp; omega), by first | omega | (simp; done) | (simp; omega), by simp [*, go_sem], by simp [*, go_sem], by simp [*, go_sem], by simp [*, go_sem], (by repeat' (first | with_reducible exact CC.out | with_reducible exact ChgB.refl _ _ _ | with_reducible refine ChgB.setB ?_ ?_ _ | with_reducible refine ChgB.alloc ?_ _ | with_reducible refine ChgB.drew ?_ | with_reducible refine ChgB.drewN ?_ _ | omega | (simp; done) | (simp; omega))), SS.out.keepS (by repeat' (first | with_reducible exact Keep.refl _ _ _ | with_reducible refine Keep.setB ?_ ?_ _ | with_reducible refine Keep.alloc ?_ ?_ _ | with_reducible refine Keep.drew ?_ | omega | (simp; done) | (simp; omega)))⟩ ?_
  clear z2 q2 f2 x2 y2 l2_0 l2_1
  rintro w3 ⟨lt3_0, lt3_1, lt3_2, c3_0, c3_1, c3_2, c3_3, cc, ss⟩
  have CC := Lib.hid cc; have SS := Lib.hid ss; clear cc ss
  by_cases hE : E = 0
  · subst hE
    go_wp2_with fail
    refine (l01Next_any S A c xs _ _ (SS.out.keepS (by repeat' (first | with_reducible exact Keep.refl _ _ _ | with_reducible refine Keep.setB ?_ ?_ _ | with_reducible refine Keep.alloc ?_ ?_ _ | with_reducible refine Keep.drew ?_ | omega | (simp; done) | (simp; omega))))).mono ?_; rintro e w4 ⟨⟨n4, rfl, n40, n41⟩, s4', ch4⟩; have CC := Lib.hid ((show ChgB S (S + 1) w _ from (by repeat' (first | with_reducible exact CC.out | with_reducible exact ChgB.refl _ _ _ | with_reducible refine ChgB.setB ?_ ?_ _ | with_reducible refine ChgB.alloc ?_ _ | with_reducible refine ChgB.drew ?_ | with_reducible refine ChgB.drewN ?_ _ | omega | (simp; done) | (simp; omega)))).trans ch4.toB); have SS := Lib.hid s4'; obtain ⟨z4, q4, f4, x4, y4⟩ := ckeepB [w.heap.size, w.heap.size + 1, w2.heap.size] (by first | (simp; done) | (simp; omega)) ch4.toB; (try simp only [World.size_alloc, World.size_drew, size_set] at z4); clear s4' ch4; have l4_0 := x4 (w.heap.size) (by simp); have l4_1 := x4 (w.heap.size + 1) (by simp); have l4_2 := x4 (w2.heap.size) (by simp)
    by_cases hg : (0 : Int) < n4
    · go_upto_region 4 with fail
      go_region_held3 (fun w' => w'.cell? ⟨w2.heap.size, 0, none⟩ = some (.int .i64 xk) ∧ w'.cell? ⟨w2.heap.size, 1, none⟩ = some (.bool xd) ∧ w'.cell? ⟨w2.heap.size, 2, none⟩ = some (.int .i64 xl) ∧ w'.cell? ⟨w2.heap.size, 3, none⟩ = some (.int .i64 xh)) (first | (go_keep; done) | (simp [*, go_sem]; done))
        (first
          | (go_at_call 35; refine (l01Next_any S A c xs _ _ (SS.out.keepS (by repeat' (first | with_reducible exact Keep.refl _ _ _ | with_reducible refine Keep.setB ?_ ?_ _ | with_reducible refine Keep.alloc ?_ ?_ _ | with_reducible refine Keep.drew ?_ | omega | (simp; done) | (simp; omega))))).mono ?_; rintro e w5 ⟨⟨n5, rfl, n50, n51⟩, s5', ch5⟩; have CC := Lib.hid ((show ChgB S (S + 1) w _ from (by repeat' (first | with_reducible exact CC.out | with_reducible exact ChgB.refl _ _ _ | with_reducible refine ChgB.setB ?_ ?_ _ | with_reducible refine ChgB.alloc ?_ _ | with_reducible refine ChgB.drew ?_ | with_reducible refine ChgB.drewN ?_ _ | omega | (simp; done) | (simp; omega)))).trans ch5.toB); have SS := Lib.hid s5'; obtain ⟨z5, q5, f5, x5, y5⟩ := ckeepB [w.heap.size, w.heap.size + 1, w2.heap.size] (by first | (simp; done) | (simp; omega)) ch5.toB; (try simp only [World.size_alloc, World.size_drew, size_set] at z5); clear s5' ch5; have l5_0 := x5 (w.heap.size) (by simp); have l5_1 := x5 (w.heap.size + 1) (by simp); have l5_2 := x5 (w2.heap.size) (by simp)))
      all_goals go_wp2
      all_goals refine bodyPost_ret (by simp [results, Tryz.results38, go_sem, *] <;> rfl) rfl ?_
      all_goals exact ⟨⟨_, _, rfl⟩, SS.out.keepS (by repeat' (first | with_reducible exact Keep.refl _ _ _ | with_reducible refine Keep.setB ?_ ?_ _ | with_reducible refine Keep.alloc ?_ ?_ _ | with_reducible refine Keep.drew ?_ | omega | (simp; done) | (simp; omega))), (by repeat' (first | with_reducible exact CC.out | with_reducible exact ChgB.refl _ _ _ | with_reducible refine ChgB.setB ?_ ?_ _ | with_reducible refine ChgB.alloc ?_ _ | with_reducible refine ChgB.drew ?_ | with_reducible refine ChgB.drewN ?_ _ | omega | (simp; done) | (simp; omega)))⟩
    · skip
      go_wp2_with fail
      refine (l01Next_any S A c xs _ _ (SS.out.keepS (by repeat' (first | with_reducible exact Keep.refl _ _ _ | with_reducible refine Keep.setB ?_ ?_ _ | with_reducible refine Keep.alloc ?_ ?_ _ | with_reducible refine Keep.drew ?_ | omega | (simp; done) | (simp; omega))))).mono ?_; rintro e w5 ⟨⟨n5, rfl, n50, n51⟩, s5', ch5⟩; have CC := Lib.hid ((show ChgB S (S + 1) w _ from (by repeat' (first | with_reducible exact CC.out | with_reducible exact ChgB.refl _ _ _ | with_reducible refine ChgB.setB ?_ ?_ _ | with_reducible refine ChgB.alloc ?_ _ | with_reducible refine ChgB.drew ?_ | with_reducible refine ChgB.drewN ?_ _ | omega | (simp; done) | (simp; omega)))).trans ch5.toB); have SS := Lib.hid s5'; obtain ⟨z5, q5, f5, x5, y5⟩ := ckeepB [w.heap.size, w.heap.size + 1, w2.heap.size] (by first | (simp; done) | (simp; omega)) ch5.toB; (try simp only [World.size_alloc, World.size_drew, size_set] at z5); clear s5' ch5; have l5_0 := x5 (w.heap.size) (by simp); have l5_1 := x5 (w.heap.size + 1) (by simp); have l5_2 := x5 (w2.heap.size) (by simp)
      by_cases hq : n5 = 0
      · subst hq
        go_wp2_with fail
        refine (l01Pick_any S A c xs _ 0 _ [-1, (ts.length : Int), 0] _ (SS.out.keepS (by repeat' (first | with_reducible exact Keep.refl _ _ _ | with_reducible refine Keep.setB ?_ ?_ _ | with_reducible refine Keep.alloc ?_ ?_ _ | with_reducible refine Keep.drew ?_ | omega | (simp; done) | (simp; omega)))) ⟨by simp, by simp, .inr ⟨_, 0, rfl, by first | omega | (simp; done) | (simp; omega), fun i x hx => by rcases i with _ | _ | _ | _ | i <;> simp at hx <;> subst hx <;> simp [*, go_sem]⟩⟩ (by simp) (by first | omega | (simp; omega))).mono ?_; rintro e w6 ⟨⟨n6, rfl, nm6⟩, s6', ch6⟩; have CC := Lib.hid ((show ChgB S (S + 1) w _ from (by repeat' (first | with_reducible exact CC.out | with_reducible exact ChgB.refl _ _ _ | with_reducible refine ChgB.setB ?_ ?_ _ | with_reducible refine ChgB.alloc ?_ _ | with_reducible refine ChgB.drew ?_ | with_reducible refine ChgB.drewN ?_ _ | omega | (simp; done) | (simp; omega)))).trans ch6.toB); have SS := Lib.hid s6'; obtain ⟨z6, q6, f6, x6, y6⟩ := ckeepB [w.heap.size, w.heap.size + 1, w2.heap.size] (by first | (simp; done) | (simp; omega)) ch6.toB; (try simp only [World.size_alloc, World.size_drew, size_set] at z6); clear s6' ch6; have l6_0 := x6 (w.heap.size) (by simp); have l6_1 := x6 (w.heap.size + 1) (by simp); have l6_2 := x6 (w2.heap.size) (by simp); clear nm6
        go_wp2_with fail
        refine (l01Pick_any S A c xs _ 0 _ [-1, 0, 1000000000000, 1000000000001] _ (SS.out.keepS (by repeat' (first | with_reducible exact Keep.refl _ _ _ | with_reducible refine Keep.setB ?_ ?_ _ | with_reducible refine Keep.alloc ?_ ?_ _ | with_reducible refine Keep.drew ?_ | omega | (simp; done) | (simp; omega)))) ⟨by simp, by simp, .inr ⟨_, 0, rfl, by first | omega | (simp; done) | (simp; omega), fun i x hx => by rcases i with _ | _ | _ | _ | i <;> simp at hx <;> subst hx <;> simp [*, go_sem]⟩⟩ (by simp) (by first | omega | (simp; omega))).mono ?_; rintro e w7 ⟨⟨n7, rfl, nm7⟩, s7', ch7⟩; have CC := Lib.hid ((show ChgB S (S + 1) w _ from (by repeat' (first | with_reducible exact CC.out | with_reducible exact ChgB.refl _ _ _ | with_reducible refine ChgB.setB ?_ ?_ _ | with_reducible refine ChgB.alloc ?_ _ | with_reducible refine ChgB.drew ?_ | with_reducible refine ChgB.drewN ?_ _ | omega | (simp; done) | (simp; omega)))).trans ch7.toB); have SS := Lib.hid s7'; obtain ⟨z7, q7, f7, x7, y7⟩ := ckeepB [w.heap.size, w.heap.size + 1, w2.heap.size] (by first | (simp; done) | (simp; omega)) ch7.toB; (try simp only [World.size_alloc, World.size_drew, size_set] at z7); clear s7' ch7; have l7_0 := x7 (w.heap.size) (by simp); have l7_1 := x7 (w.heap.size + 1) (by simp); have l7_2 := x7 (w2.heap.size) (by simp); clear nm7
        go_wp2
        all_goals refine bodyPost_ret (by simp [results, Tryz.results38, go_sem, *] <;> rfl) rfl ?_
        all_goals exact ⟨⟨_, _, rfl⟩, SS.out.keepS (by repeat' (first | with_reducible exact Keep.refl _ _ _ | with_reducible refine Keep.setB ?_ ?_ _ | with_reducible refine Keep.alloc ?_ ?_ _ | with_reducible refine Keep.drew ?_ | omega | (simp; done) | (simp; omega))), (by repeat' (first | with_reducible exact CC.out | with_reducible exact ChgB.refl _ _ _ | with_reducible refine ChgB.setB ?_ ?_ _ | with_reducible refine ChgB.alloc ?_ _ | with_reducible refine ChgB.drew ?_ | with_reducible refine ChgB.drewN ?_ _ | omega | (simp; done) | (simp; omega)))⟩
      · have hq2 : (n5 == 0) = false := beq_eq_false_iff_ne.2 hq
        go_wp2_with fail
        refine (l01Next_any S A c xs _ _ (SS.out.keepS (by repeat' (first | with_reducible exact Keep.refl _ _ _ | with_reducible refine Keep.setB ?_ ?_ _ | with_reducible refine Keep.alloc ?_ ?_ _ | with_reducible refine Keep.drew ?_ | omega | (simp; done) | (simp; omega))))).mono ?_; rintro e w6 ⟨⟨n6, rfl, n60, n61⟩, s6', ch6⟩; have CC := Lib.hid ((show ChgB S (S + 1) w _ from (by repeat' (first | with_reducible exact CC.out | with_reducible exact ChgB.refl _ _ _ | with_reducible refine ChgB.setB ?_ ?_ _ | with_reducible refine ChgB.alloc ?_ _ | with_reducible refine ChgB.drew ?_ | with_reducible refine ChgB.drewN ?_ _ | omega | (simp; done) | (simp; omega)))).trans ch6.toB); have SS := Lib.hid s6'; obtain ⟨z6, q6, f6, x6, y6⟩ := ckeepB [w.heap.size, w.heap.size + 1, w2.heap.size] (by first | (simp; done) | (simp; omega)) ch6.toB; (try simp only [World.size_alloc, World.size_drew, size_set] at z6); clear s6' ch6; have l6_0 := x6 (w.heap.size) (by simp); have l6_1 := x6 (w.heap.size + 1) (by simp); have l6_2 := x6 (w2.heap.size) (by simp)
        go_wp2_with fail
        refine (l01Next_any S A c xs _ _ (SS.out.keepS (by repeat' (first | with_reducible exact Keep.refl _ _ _ | with_reducible refine Keep.setB ?_ ?_ _ | with_reducible refine Keep.alloc ?_ ?_ _ | with_reducible refine Keep.drew ?_ | omega | (simp; done) | (simp; omega))))).mono ?_; rintro e w7 ⟨⟨n7, rfl, n70, n71⟩, s7', ch7⟩; have CC := Lib.hid ((show ChgB S (S + 1) w _ from (by repeat' (first | with_reducible exact CC.out | with_reducible exact ChgB.refl _ _ _ | with_reducible refine ChgB.setB ?_ ?_ _ | with_reducible refine ChgB.alloc ?_ _ | with_reducible refine ChgB.drew ?_ | with_reducible refine ChgB.drewN ?_ _ | omega | (simp; done) | (simp; omega)))).trans ch7.toB); have SS := Lib.hid s7'; obtain ⟨z7, q7, f7, x7, y7⟩ := ckeepB [w.heap.size, w.heap.size + 1, w2.heap.size] (by first | (simp; done) | (simp; omega)) ch7.toB; (try simp only [World.size_alloc, World.size_drew, size_set] at z7); clear s7' ch7; have l7_0 := x7 (w.heap.size) (by simp); have l7_1 := x7 (w.heap.size + 1) (by simp); have l7_2 := x7 (w2.heap.size) (by simp)
        go_wp2
        all_goals refine bodyPost_ret (by simp [results, Tryz.results38, go_sem, *] <;> rfl) rfl ?_
        all_goals exact ⟨⟨_, _, rfl⟩, SS.out.keepS (by repeat' (first | with_reducible exact Keep.refl _ _ _ | with_reducible refine Keep.setB ?_ ?_ _ | with_reducible refine Keep.alloc ?_ ?_ _ | with_reducible refine Keep.drew ?_ | omega | (simp; done) | (simp; omega))), (by repeat' (first | with_reducible exact CC.out | with_reducible exact ChgB.refl _ _ _ | with_reducible refine ChgB.setB ?_ ?_ _ | with_reducible refine ChgB.alloc ?_ _ | with_reducible refine ChgB.drew ?_ | with_reducible refine ChgB.drewN ?_ _ | omega | (simp; done) | (simp; omega)))⟩
  · have hE1 : (E == 0) = false := beq_eq_false_iff_ne.2 hE
    go_wp2_with fail
    refine (l01Next_any S A c xs _ _ (SS.out.keepS (by repeat' (first | with_reducible exact Keep.refl _ _ _ | with_reducible refine Keep.setB ?_ ?_ _ | with_reducible refine Keep.alloc ?_ ?_ _ | with_reducible refine Keep.drew ?_ | omega | (simp; done) | (simp; omega))))).mono ?_; rintro e w5 ⟨⟨n5, rfl, n50, n51⟩, s5', ch5⟩; have CC := Lib.hid ((show ChgB S (S + 1) w _ from (by repeat' (first | with_reducible exact CC.out | with_reducible exact ChgB.refl _ _ _ | with_reducible refine ChgB.setB ?_ ?_ _ | with_reducible refine ChgB.alloc ?_ _ | with_reducible refine ChgB.drew ?_ | with_reducible refine ChgB.drewN ?_ _ | omega | (simp; done) | (simp; omega)))).trans ch5.toB); have SS := Lib.hid s5'; obtain ⟨z5, q5, f5, x5, y5⟩ := ckeepB [w.heap.size, w.heap.size + 1, w2.heap.size] (by first | (simp; done) | (simp; omega)) ch5.toB; (try simp only [World.size_alloc, World.size_drew, size_set] at z5); clear s5' ch5; have l5_0 := x5 (w.heap.size) (by simp); have l5_1 := x5 (w.heap.size + 1) (by simp); have l5_2 := x5 (w2.heap.size) (by simp)
    by_cases hq : n5 = 0
    · subst hq
      go_wp2_with fail
      refine (l01Pick_any S A c xs _ 0 _ [-1, (ts.length : Int), 0] _ (SS.out.keepS (by repeat' (first | with_reducible exact Keep.refl _ _ _ | with_reducible refine Keep.setB ?_ ?_ _ | with_reducible refine Keep.alloc ?_ ?_ _ | with_reducible refine Keep.drew ?_ | omega | (simp; done) | (simp; omega)))) ⟨by simp, by simp, .inr ⟨_, 0, rfl, by first | omega | (simp; done) | (simp; omega), fun i x hx => by rcases i with _ | _ | _ | _ | i <;> simp at hx <;> subst hx <;> simp [*, go_sem]⟩⟩ (by simp) (by first | omega | (simp; omega))).mono ?_; rintro e w6 ⟨⟨n6, rfl, nm6⟩, s6', ch6⟩; have CC := Lib.hid ((show ChgB S (S + 1) w _ from (by repeat' (first | with_reducible exact CC.out | with_reducible exact ChgB.refl _ _ _ | with_reducible refine ChgB.setB ?_ ?_ _ | with_reducible refine ChgB.alloc ?_ _ | with_reducible refine ChgB.drew ?_ | with_reducible refine ChgB.drewN ?_ _ | omega | (simp; done) | (simp; omega)))).trans ch6.toB); have SS := Lib.hid s6'; obtain ⟨z6, q6, f6, x6, y6⟩ := ckeepB [w.heap.size, w.heap.size + 1, w2.heap.size] (by first | (simp; done) | (simp; omega)) ch6.toB; (try simp only [World.size_alloc, World.size_drew, size_set] at z6); clear s6' ch6; have l6_0 := x6 (w.heap.size) (by simp); have l6_1 := x6 (w.heap.size + 1) (by simp); have l6_2 := x6 (w2.heap.size) (by simp); clear nm6
      go_wp2_with fail
      refine (l01Pick_any S A c xs _ 0 _ [-1, 0, 1000000000000, 1000000000001] _ (SS.out.keepS (by repeat' (first | with_reducible exact Keep.refl _ _ _ | with_reducible refine Keep.setB ?_ ?_ _ | with_reducible refine Keep.alloc ?_ ?_ _ | with_reducible refine Keep.drew ?_ | omega | (simp; done) | (simp; omega)))) ⟨by simp, by simp, .inr ⟨_, 0, rfl, by first | omega | (simp; done) | (simp; omega), fun i x hx => by rcases i with _ | _ | _ | _ | i <;> simp at hx <;> subst hx <;> simp [*, go_sem]⟩⟩ (by simp) (by first | omega | (simp; omega))).mono ?_; rintro e w7 ⟨⟨n7, rfl, nm7⟩, s7', ch7⟩; have CC := Lib.hid ((show ChgB S (S + 1) w _ from (by repeat' (first | with_reducible exact CC.out | with_reducible exact ChgB.refl _ _ _ | with_reducible refine ChgB.setB ?_ ?_ _ | with_reducible refine ChgB.alloc ?_ _ | with_reducible refine ChgB.drew ?_ | with_reducible refine ChgB.drewN ?_ _ | omega | (simp; done) | (simp; omega)))).trans ch7.toB); have SS := Lib.hid s7'; obtain ⟨z7, q7, f7, x7, y7⟩ := ckeepB [w.heap.size, w.heap.size + 1, w2.heap.size] (by first | (simp; done) | (simp; omega)) ch7.toB; (try simp only [World.size_alloc, World.size_drew, size_set] at z7); clear s7' ch7; have l7_0 := x7 (w.heap.size) (by simp); have l7_1 := x7 (w.heap.size + 1) (by simp); have l7_2 := x7 (w2.heap.size) (by simp); clear nm7
      go_wp2
      all_goals refine bodyPost_ret (by simp [results, Tryz.results38, go_sem, *] <;> rfl) rfl ?_
      all_goals exact ⟨⟨_, _, rfl⟩, SS.out.keepS (by repeat' (first | with_reducible exact Keep.refl _ _ _ | with_reducible refine Keep.setB ?_ ?_ _ | with_reducible refine Keep.alloc ?_ ?_ _ | with_reducible refine Keep.drew ?_ | omega | (simp; done) | (simp; omega))), (by repeat' (first | with_reducible exact CC.out | with_reducible exact ChgB.refl _ _ _ | with_reducible refine ChgB.setB ?_ ?_ _ | with_reducible refine ChgB.alloc ?_ _ | with_reducible refine ChgB.drew ?_ | with_reducible refine ChgB.drewN ?_ _ | omega | (simp; done) | (simp; omega)))⟩
    · have hq2 : (n5 == 0) = false := beq_eq_false_iff_ne.2 hq
      go_wp2_with fail
      refine (l01Next_any S A c xs _ _ (SS.out.keepS (by repeat' (first | with_reducible exact Keep.refl _ _ _ | with_reducible refine Keep.setB ?_ ?_ _ | with_reducible refine Keep.alloc ?_ ?_ _ | with_reducible refine Keep.drew ?_ | omega | (simp; done) | (simp; omega))))).mono ?_; rintro e w6 ⟨⟨n6, rfl, n60, n61⟩, s6', ch6⟩; have CC := Lib.hid ((show ChgB S (S + 1) w _ from (by repeat' (first | with_reducible exact CC.out | with_reducible exact ChgB.refl _ _ _ | with_reducible refine ChgB.setB ?_ ?_ _ | with_reducible refine ChgB.alloc ?_ _ | with_reducible refine ChgB.drew ?_ | with_reducible refine ChgB.drewN ?_ _ | omega | (simp; done) | (simp; omega)))).trans ch6.toB); have SS := Lib.hid s6'; obtain ⟨z6, q6, f6, x6, y6⟩ := ckeepB [w.heap.size, w.heap.size + 1, w2.heap.size] (by first | (simp; done) | (simp; omega)) ch6.toB; (try simp only [World.size_alloc, World.size_drew, size_set] at z6); clear s6' ch6; have l6_0 := x6 (w.heap.size) (by simp); have l6_1 := x6 (w.heap.size + 1) (by simp); have l6_2 := x6 (w2.heap.size) (by simp)
      go_wp2_with fail
      refine (l01Next_any S A c xs _ _ (SS.out.keepS (by repeat' (first | with_reducible exact Keep.refl _ _ _ | with_reducible refine Keep.setB ?_ ?_ _ | with_reducible refine Keep.alloc ?_ ?_ _ | with_reducible refine Keep.drew ?_ | omega | (simp; done) | (simp; omega))))).mono ?_; rintro e w7 ⟨⟨n7, rfl, n70, n71⟩, s7', ch7⟩; have CC := Lib.hid ((show ChgB S (S + 1) w _ from (by repeat' (first | with_reducible exact CC.out | with_reducible exact ChgB.refl _ _ _ | with_reducible refine ChgB.setB ?_ ?_ _ | with_reducible refine ChgB.alloc ?_ _ | with_reducible refine ChgB.drew ?_ | with_reducible refine ChgB.drewN ?_ _ | omega | (simp; done) | (simp; omega)))).trans ch7.toB); have SS := Lib.hid s7'; obtain ⟨z7, q7, f7, x7, y7⟩ := ckeepB [w.heap.size, w.heap.size + 1, w2.heap.size] (by first | (simp; done) | (simp; omega)) ch7.toB; (try simp only [World.size_alloc, World.size_drew, size_set] at z7); clear s7' ch7; have l7_0 := x7 (w.heap.size) (by simp); have l7_1 := x7 (w.heap.size + 1) (by simp); have l7_2 := x7 (w2.heap.size) (by simp)
      go_wp2
      all_goals refine bodyPost_ret (by simp [results, Tryz.results38, go_sem, *] <;> rfl) rfl ?_
      all_goals exact ⟨⟨_, _, rfl⟩, SS.out.keepS (by repeat' (first | with_reducible exact Keep.refl _ _ _ | with_reducible refine Keep.setB ?_ ?_ _ | with_reducible refine Keep.alloc ?_ ?_ _ | with_reducible refine Keep.drew ?_ | omega | (simp; done) | (simp; omega))), (by repeat' (first | with_reducible exact CC.out | with_reducible exact ChgB.refl _ _ _ | with_reducible refine ChgB.setB ?_ ?_ _ | with_reducible refine ChgB.alloc ?_ _ | with_reducible refine ChgB.drew ?_ | with_reducible refine ChgB.drewN ?_ _ | omega | (simp; done) | (simp; omega)))⟩
end

section
set_option linter.unusedSimpArgs false
set_option linter.unusedVariables false
open Go.RowKit

set_option maxRecDepth 100000 in
set_option maxHeartbeats 8000000 in
theorem l08DrawAll_any (S : Nat) (A : Option Addr) (c : Nat) (xs : List Int) (w : World) (h : SrcAt w S A c xs) :
    Calls Tryz.prog 15 #[.pointer (some ⟨S, 0, none⟩)] w fun e w' => (∃ A1 c1 A2 c2 ts ls k fa fb fc bb st q u, e = .returned (.tuple #[profV A1 (List.length ts) c1 A2 (List.length ls) c2, .int .i64 k, .int .i64 fa, .int .i64 fb, .int .i64 fc, .bool bb, .int .i64 st, .int .i64 q, .int .i64 u]) ∧ ResP w' w.heap.size w'.heap.size A1 c1 A2 c2 ts ls) ∧ SrcAt w' S A c xs ∧ ChgB S (S + 1) w w' := by
  have ltS := h.lt
  have SS := Lib.hid h; have CC := Lib.hid (ChgB.refl S (S + 1) w); clear h
  have n_0 : w.heap.size ≠ S := by omega
  have m_0 : S ≠ w.heap.size := by omega
  go_enter Tryz.func15, Tryz.ntmps15
  go_upto_region 2 with (go_at_call 33; refine (l04DrawKnot_any S A c xs _ (SS.out.keepS (by repeat' (first | with_reducible exact Keep.refl _ _ _ | with_reducible refine Keep.setB ?_ ?_ _ | with_reducible refine Keep.alloc ?_ ?_ _ | with_reducible refine Keep.drew ?_ | omega | (simp; done) | (simp; omega))))).mono ?_; rintro e w2 ⟨⟨A1, c1, A2, c2, ts, ls, kk, rfl, rp, h1, h2⟩, s2', ch2⟩; have CC := Lib.hid ((show ChgB S (S + 1) w _ from (by repeat' (first | with_reducible exact CC.out | with_reducible exact ChgB.refl _ _ _ | with_reducible refine ChgB.setB ?_ ?_ _ | with_reducible refine ChgB.alloc ?_ _ | with_reducible refine ChgB.drew ?_ | with_reducible refine ChgB.drewN ?_ _ | omega | (simp; done) | (simp; omega)))).trans ch2); have SS := Lib.hid s2'; obtain ⟨z2, q2, f2, x2, y2⟩ := ckeepB [w.heap.size] (by first | (simp; done) | (simp; omega)) ch2; (try simp only [World.size_alloc, World.size_drew, size_set] at z2); clear s2' ch2; have l2_0 := x2 (w.heap.size) (by simp); have RP := Lib.hid rp; clear rp)
  obtain ⟨naa1, nab1⟩ : (w.heap.size = w2.heap.size) = False ∧ (w2.heap.size = w.heap.size) = False := by
    refine ⟨?_, ?_⟩ <;> exact eq_false (by omega)
  have sA2_0 : S ≠ w2.heap.size := by omega
  have sB2_0 : w2.heap.size ≠ S := by omega
  have sC2_0 : S < w2.heap.size := by omega
  have sD2_0 : w.heap.size ≤ w2.heap.size := by omega
  have RP : Hid (ResP _ (w.heap.size + 1) w2.heap.size A1 c1 A2 c2 ts ls) := Lib.hid (RP.out.mono (by first | (simp; done) | (simp; omega)) (Nat.le_refl _))
  refine genS (S := fun w' => w.heap.size < w'.heap.size ∧ w2.heap.size < w'.heap.size ∧ w'.cell? ⟨w.heap.size, 0, none⟩ = some (.slice none 0 0) ∧ w'.cell? ⟨w.heap.size, 1, none⟩ = some (.slice none 0 0) ∧ w'.cell? ⟨w2.heap.size, 0, none⟩ = some (.slice A1 (List.length ts) c1) ∧ w'.cell? ⟨w2.heap.size, 1, none⟩ = some (.slice A2 (List.length ls) c2) ∧ (∀ o, w'.frozen? ⟨w.heap.size, o, none⟩ = false) ∧ ChgB S (S + 1) w w' ∧ SrcAt w' S A c xs ∧ ResP w' (w.heap.size + 1) w2.heap.size A1 c1 A2 c2 ts ls) ⟨by first | omega | (simp; done) | (simp; omega), by first | omega | (simp; done) | (simp; omega), by simp [*, go_sem], by simp [*, go_sem], by simp [*, go_sem], by simp [*, go_sem], fun o => by simp [*, go_sem], (by repeat' (first | with_reducible exact CC.out | with_reducible exact ChgB.refl _ _ _ | with_reducible refine ChgB.setB ?_ ?_ _ | with_reducible refine ChgB.alloc ?_ _ | with_reducible refine ChgB.drew ?_ | with_reducible refine ChgB.drewN ?_ _ | omega | (simp; done) | (simp; omega))), SS.out.keepS (by repeat' (first | with_reducible exact Keep.refl _ _ _ | with_reducible refine Keep.setB ?_ ?_ _ | with_reducible refine Keep.alloc ?_ ?_ _ | with_reducible refine Keep.drew ?_ | omega | (simp; done) | (simp; omega))), RP.out.kept (by repeat' (first | with_reducible exact Keep.refl _ _ _ | with_reducible refine Keep.setB ?_ ?_ _ | with_reducible refine Keep.alloc ?_ ?_ _ | with_reducible refine Keep.drew ?_ | omega | (simp; done) | (simp; omega)))⟩ ?_
  clear z2 q2 f2 x2 y2 l2_0
  rintro w3 ⟨lt3_0, lt3_1, c3_0, c3_1, c3_2, c3_3, fz3_0, cc, ss, rr_RP⟩
  have CC := Lib.hid cc; have SS := Lib.hid ss; have RP := Lib.hid rr_RP; clear cc ss rr_RP
  go_wp2_with fail
  refine (l08DrawFan_any S A c xs _ (SS.out.keepS (by repeat' (first | with_reducible exact Keep.refl _ _ _ | with_reducible refine Keep.setB ?_ ?_ _ | with_reducible refine Keep.alloc ?_ ?_ _ | with_reducible refine Keep.drew ?_ | omega | (simp; done) | (simp; omega))))).mono ?_; rintro e w4 ⟨⟨fa, fb, fc, rfl⟩, s4', ch4⟩; have CC := Lib.hid ((show ChgB S (S + 1) w _ from (by repeat' (first | with_reducible exact CC.out | with_reducible exact ChgB.refl _ _ _ | with_reducible refine ChgB.setB ?_ ?_ _ | with_reducible refine ChgB.alloc ?_ _ | with_reducible refine ChgB.drew ?_ | with_reducible refine ChgB.drewN ?_ _ | omega | (simp; done) | (simp; omega)))).trans ch4); have RP := Lib.hid (RP.out.keepB (by repeat' (first | with_reducible exact Keep.refl _ _ _ | with_reducible refine Keep.setB ?_ ?_ _ | with_reducible refine Keep.alloc ?_ ?_ _ | with_reducible refine Keep.drew ?_ | omega | (simp; done) | (simp; omega))) ch4 (by omega) (by first | omega | (simp; done) | (simp; omega))); have SS := Lib.hid s4'; obtain ⟨z4, q4, f4, x4, y4⟩ := ckeepB [w.heap.size, w2.heap.size] (by first | (simp; done) | (simp; omega)) ch4; (try simp only [World.size_alloc, World.size_drew, size_set] at z4); clear s4' ch4; have l4_0 := x4 (w.heap.size) (by simp); have l4_1 := x4 (w2.heap.size) (by simp)
  go_wp2_with fail
  refine (l01Next_any S A c xs _ _ (SS.out.keepS (by repeat' (first | with_reducible exact Keep.refl _ _ _ | with_reducible refine Keep.setB ?_ ?_ _ | with_reducible refine Keep.alloc ?_ ?_ _ | with_reducible refine Keep.drew ?_ | omega | (simp; done) | (simp; omega))))).mono ?_; rintro e w5 ⟨⟨n5, rfl, n50, n51⟩, s5', ch5⟩; have CC := Lib.hid ((show ChgB S (S + 1) w _ from (by repeat' (first | with_reducible exact CC.out | with_reducible exact ChgB.refl _ _ _ | with_reducible refine ChgB.setB ?_ ?_ _ | with_reducible refine ChgB.alloc ?_ _ | with_reducible refine ChgB.drew ?_ | with_reducible refine ChgB.drewN ?_ _ | omega | (simp; done) | (simp; omega)))).trans ch5.toB); have RP := Lib.hid (RP.out.keepB (by repeat' (first | with_reducible exact Keep.refl _ _ _ | with_reducible refine Keep.setB ?_ ?_ _ | with_reducible refine Keep.alloc ?_ ?_ _ | with_reducible refine Keep.drew ?_ | omega | (simp; done) | (simp; omega))) ch5.toB (by omega) (by first | omega | (simp; done) | (simp; omega))); have SS := Lib.hid s5'; obtain ⟨z5, q5, f5, x5, y5⟩ := ckeepB [w.heap.size, w2.heap.size] (by first | (simp; done) | (simp; omega)) ch5.toB; (try simp only [World.size_alloc, World.size_drew, size_set] at z5); clear s5' ch5; have l5_0 := x5 (w.heap.size) (by simp); have l5_1 := x5 (w2.heap.size) (by simp)
  go_wp2_with fail
  refine (l01Next_any S A c xs _ _ (SS.out.keepS (by repeat' (first | with_reducible exact Keep.refl _ _ _ | with_reducible refine Keep.setB ?_ ?_ _ | with_reducible refine Keep.alloc ?_ ?_ _ | with_reducible refine Keep.drew ?_ | omega | (simp; done) | (simp; omega))))).mono ?_; rintro e w6 ⟨⟨n6, rfl, n60, n61⟩, s6', ch6⟩; have CC := Lib.hid ((show ChgB S (S + 1) w _ from (by repeat' (first | with_reducible exact CC.out | with_reducible exact ChgB.refl _ _ _ | with_reducible refine ChgB.setB ?_ ?_ _ | with_reducible refine ChgB.alloc ?_ _ | with_reducible refine ChgB.drew ?_ | with_reducible refine ChgB.drewN ?_ _ | omega | (simp; done) | (simp; omega)))).trans ch6.toB); have RP := Lib.hid (RP.out.keepB (by repeat' (first | with_reducible exact Keep.refl _ _ _ | with_reducible refine Keep.setB ?_ ?_ _ | with_reducible refine Keep.alloc ?_ ?_ _ | with_reducible refine Keep.drew ?_ | omega | (simp; done) | (simp; omega))) ch6.toB (by omega) (by first | omega | (simp; done) | (simp; omega))); have SS := Lib.hid s6'; obtain ⟨z6, q6, f6, x6, y6⟩ := ckeepB [w.heap.size, w2.heap.size] (by first | (simp; done) | (simp; omega)) ch6.toB; (try simp only [World.size_alloc, World.size_drew, size_set] at z6); clear s6' ch6; have l6_0 := x6 (w.heap.size) (by simp); have l6_1 := x6 (w2.heap.size) (by simp)
  go_wp2_with fail
  refine (l01Next_any S A c xs _ _ (SS.out.keepS (by repeat' (first | with_reducible exact Keep.refl _ _ _ | with_reducible refine Keep.setB ?_ ?_ _ | with_reducible refine Keep.alloc ?_ ?_ _ | with_reducible refine Keep.drew ?_ | omega | (simp; done) | (simp; omega))))).mono ?_; rintro e w7 ⟨⟨n7, rfl, n70, n71⟩, s7', ch7⟩; have CC := Lib.hid ((show ChgB S (S + 1) w _ from (by repeat' (first | with_reducible exact CC.out | with_reducible exact ChgB.refl _ _ _ | with_reducible refine ChgB.setB ?_ ?_ _ | with_reducible refine ChgB.alloc ?_ _ | with_reducible refine ChgB.drew ?_ | with_reducible refine ChgB.drewN ?_ _ | omega | (simp; done) | (simp; omega)))).trans ch7.toB); have RP := Lib.hid (RP.out.keepB (by repeat' (first | with_reducible exact Keep.refl _ _ _ | with_reducible refine Keep.setB ?_ ?_ _ | with_reducible refine Keep.alloc ?_ ?_ _ | with_reducible refine Keep.drew ?_ | omega | (simp; done) | (simp; omega))) ch7.toB (by omega) (by first | omega | (simp; done) | (simp; omega))); have SS := Lib.hid s7'; obtain ⟨z7, q7, f7, x7, y7⟩ := ckeepB [w.heap.size, w2.heap.size] (by first | (simp; done) | (simp; omega)) ch7.toB; (try simp only [World.size_alloc, World.size_drew, size_set] at z7); clear s7' ch7; have l7_0 := x7 (w.heap.size) (by simp); have l7_1 := x7 (w2.heap.size) (by simp)
  by_cases hn : n7 = 0
  · subst hn
    go_wp2_with fail
    refine (l01Pick_any S A c xs _ 0 _ [-1, 101] _ (SS.out.keepS (by repeat' (first | with_reducible exact Keep.refl _ _ _ | with_reducible refine Keep.setB ?_ ?_ _ | with_reducible refine Keep.alloc ?_ ?_ _ | with_reducible refine Keep.drew ?_ | omega | (simp; done) | (simp; omega)))) ⟨by simp, by simp, .inr ⟨_, 0, rfl, by first | omega | (simp; done) | (simp; omega), fun i x hx => by rcases i with _ | _ | _ | _ | i <;> simp at hx <;> subst hx <;> simp [*, go_sem]⟩⟩ (by simp) (by first | omega | (simp; omega))).mono ?_; rintro e w8 ⟨⟨n8, rfl, nm8⟩, s8', ch8⟩; have CC := Lib.hid ((show ChgB S (S + 1) w _ from (by repeat' (first | with_reducible exact CC.out | with_reducible exact ChgB.refl _ _ _ | with_reducible refine ChgB.setB ?_ ?_ _ | with_reducible refine ChgB.alloc ?_ _ | with_reducible refine ChgB.drew ?_ | with_reducible refine ChgB.drewN ?_ _ | omega | (simp; done) | (simp; omega)))).trans ch8.toB); have RP := Lib.hid (RP.out.keepB (by repeat' (first | with_reducible exact Keep.refl _ _ _ | with_reducible refine Keep.setB ?_ ?_ _ | with_reducible refine Keep.alloc ?_ ?_ _ | with_reducible refine Keep.drew ?_ | omega | (simp; done) | (simp; omega))) ch8.toB (by omega) (by first | omega | (simp; done) | (simp; omega))); have SS := Lib.hid s8'; obtain ⟨z8, q8, f8, x8, y8⟩ := ckeepB [w.heap.size, w2.heap.size] (by first | (simp; done) | (simp; omega)) ch8.toB; (try simp only [World.size_alloc, World.size_drew, size_set] at z8); clear s8' ch8; have l8_0 := x8 (w.heap.size) (by simp); have l8_1 := x8 (w2.heap.size) (by simp); clear nm8
    obtain ⟨ee1_, hq1⟩ : ∃ x, wrap64 (fa - 1) = x := ⟨_, rfl⟩
    obtain ⟨ee2_, hq2⟩ : ∃ x, (if 1 < ee1_ then ee1_ else 1) = x := ⟨_, rfl⟩
    obtain ⟨ee3_, hq3⟩ : ∃ x, wrap64 (fb + 1) = x := ⟨_, rfl⟩
    obtain ⟨ee4_, hq4⟩ : ∃ x, (if ee2_ < ee3_ then ee2_ else ee3_) = x := ⟨_, rfl⟩
    go_wp2_with fail
    refine (makeDirW_any _ _ _ _).mono ?_; rintro e w9 ⟨⟨pa, pb, pg, pk, rfl⟩, hb9⟩; have s9' := (SS.out.keepS (by repeat' (first | with_reducible exact Keep.refl _ _ _ | with_reducible refine Keep.setB ?_ ?_ _ | with_reducible refine Keep.alloc ?_ ?_ _ | with_reducible refine Keep.drew ?_ | omega | (simp; done) | (simp; omega)))).below hb9 (by first | omega | (simp; done) | (simp; omega)); have ch9 : ChgB S (S + 1) _ _ := ChgB.of_below hb9; clear hb9; have CC := Lib.hid ((show ChgB S (S + 1) w _ from (by repeat' (first | with_reducible exact CC.out | with_reducible exact ChgB.refl _ _ _ | with_reducible refine ChgB.setB ?_ ?_ _ | with_reducible refine ChgB.alloc ?_ _ | with_reducible refine ChgB.drew ?_ | with_reducible refine ChgB.drewN ?_ _ | omega | (simp; done) | (simp; omega)))).trans ch9); have RP := Lib.hid (RP.out.keepB (by repeat' (first | with_reducible exact Keep.refl _ _ _ | with_reducible refine Keep.setB ?_ ?_ _ | with_reducible refine Keep.alloc ?_ ?_ _ | with_reducible refine Keep.drew ?_ | omega | (simp; done) | (simp; omega))) ch9 (by omega) (by first | omega | (simp; done) | (simp; omega))); have SS := Lib.hid s9'; obtain ⟨z9, q9, f9, x9, y9⟩ := ckeepB [w.heap.size, w2.heap.size] (by first | (simp; done) | (simp; omega)) ch9; (try simp only [World.size_alloc, World.size_drew, size_set] at z9); clear s9' ch9; have l9_0 := x9 (w.heap.size) (by simp); have l9_1 := x9 (w2.heap.size) (by simp)
    clear hq1 hq2 hq3 hq4
    have l29 : w2.heap.size < w9.heap.size := by omega
    obtain ⟨nba1, nbb1, nba2, nbb2⟩ : (w.heap.size = w9.heap.size) = False ∧ (w9.heap.size = w.heap.size) = False ∧ (w2.heap.size = w9.heap.size) = False ∧ (w9.heap.size = w2.heap.size) = False := by
      refine ⟨?_, ?_, ?_, ?_⟩ <;> exact eq_false (by omega)
    have sA9_0 : S ≠ w9.heap.size := by omega
    have sB9_0 : w9.heap.size ≠ S := by omega
    have sC9_0 : S < w9.heap.size := by omega
    have sD9_0 : w.heap.size ≤ w9.heap.size := by omega
    go_upto_region 8 with fail
    refine genS (S := fun w' => w.heap.size < w'.heap.size ∧ w2.heap.size < w'.heap.size ∧ w9.heap.size < w'.heap.size ∧ w'.cell? ⟨w.heap.size, 0, none⟩ = some (.slice none 0 0) ∧ w'.cell? ⟨w.heap.size, 1, none⟩ = some (.slice none 0 0) ∧ w'.cell? ⟨w2.heap.size, 0, none⟩ = some (.slice A1 (List.length ts) c1) ∧ w'.cell? ⟨w2.heap.size, 1, none⟩ = some (.slice A2 (List.length ls) c2) ∧ w'.cell? ⟨w9.heap.size, 0, none⟩ = some (.int .i64 pa) ∧ w'.cell? ⟨w9.heap.size, 1, none⟩ = some (.int .i64 pb) ∧ w'.cell? ⟨w9.heap.size, 2, none⟩ = some (.int .i64 pg) ∧ (∀ o, w'.frozen? ⟨w.heap.size, o, none⟩ = false) ∧ ChgB S (S + 1) w w' ∧ SrcAt w' S A c xs ∧ ResP w' (w.heap.size + 1) w2.heap.size A1 c1 A2 c2 ts ls) ⟨by first | omega | (simp; done) | (simp; omega), by first | omega | (simp; done) | (simp; omega), by first | omega | (simp; done) | (simp; omega), by simp [*, go_sem], by simp [*, go_sem], by simp [*, go_sem], by simp [*, go_sem], by simp [*, go_sem], by simp [*, go_sem], by simp [*, go_sem], fun o => by simp [*, go_sem], (by repeat' (first | with_reducible exact CC.out | with_reducible exact ChgB.refl _ _ _ | with_reducible refine ChgB.setB ?_ ?_ _ | with_reducible refine ChgB.alloc ?_ _ | with_reducible refine ChgB.drew ?_ | with_reducible refine ChgB.drewN ?_ _ | omega | (simp; done) | (simp; omega))), SS.out.keepS (by repeat' (first | with_reducible exact Keep.refl _ _ _ | with_reducible refine Keep.setB ?_ ?_ _ | with_reducible refine Keep.alloc ?_ ?_ _ | with_reducible refine Keep.drew ?_ | omega | (simp; done) | (simp; omega))), RP.out.kept (by repeat' (first | with_reducible exact Keep.refl _ _ _ | with_reducible refine Keep.setB ?_ ?_ _ | with_reducible refine Keep.alloc ?_ ?_ _ | with_reducible refine Keep.drew ?_ | omega | (simp; done) | (simp; omega)))⟩ ?_
    clear z4 q4 f4 x4 y4 z5 q5 f5 x5 y5 z6 q6 f6 x6 y6 z7 q7 f7 x7 y7 z8 q8 f8 x8 y8 z9 q9 f9 x9 y9 l4_0 l4_1 l5_0 l5_1 l6_0 l6_1 l7_0 l7_1 l8_0 l8_1 l9_0 l9_1 lt3_0 lt3_1 c3_0 c3_1 c3_2 c3_3 fz3_0
    rintro w10 ⟨lt10_0, lt10_1, lt10_2, c10_0, c10_1, c10_2, c10_3, c10_4, c10_5, c10_6, fz10_0, cc, ss, rr_RP⟩
    have CC := Lib.hid cc; have SS := Lib.hid ss; have RP := Lib.hid rr_RP; clear cc ss rr_RP
    go_wp2_with fail
    refine (l08DrawDistance_any S A c xs A1 A2 c1 c2 ts ls _ _ _ _ _ _ (SS.out.keepS (by repeat' (first | with_reducible exact Keep.refl _ _ _ | with_reducible refine Keep.setB ?_ ?_ _ | with_reducible refine Keep.alloc ?_ ?_ _ | with_reducible refine Keep.drew ?_ | omega | (simp; done) | (simp; omega)))) ((RP.out.kept (by repeat' (first | with_reducible exact Keep.refl _ _ _ | with_reducible refine Keep.setB ?_ ?_ _ | with_reducible refine Keep.alloc ?_ ?_ _ | with_reducible refine Keep.drew ?_ | omega | (simp; done) | (simp; omega)))).at)).mono ?_; rintro e w11 ⟨⟨pq, pu, rfl⟩, s11', ch11⟩; have CC := Lib.hid ((show ChgB S (S + 1) w _ from (by repeat' (first | with_reducible exact CC.out | with_reducible exact ChgB.refl _ _ _ | with_reducible refine ChgB.setB ?_ ?_ _ | with_reducible refine ChgB.alloc ?_ _ | with_reducible refine ChgB.drew ?_ | with_reducible refine ChgB.drewN ?_ _ | omega | (simp; done) | (simp; omega)))).trans ch11); have RP := Lib.hid (RP.out.keepB (by repeat' (first | with_reducible exact Keep.refl _ _ _ | with_reducible refine Keep.setB ?_ ?_ _ | with_reducible refine Keep.alloc ?_ ?_ _ | with_reducible refine Keep.drew ?_ | omega | (simp; done) | (simp; omega))) ch11 (by omega) (by first | omega | (simp; done) | (simp; omega))); have SS := Lib.hid s11'; obtain ⟨z11, q11, f11, x11, y11⟩ := ckeepB [w.heap.size, w2.heap.size, w9.heap.size] (by first | (simp; done) | (simp; omega)) ch11; (try simp only [World.size_alloc, World.size_drew, size_set] at z11); clear s11' ch11; have l11_0 := x11 (w.heap.size) (by simp); have l11_1 := x11 (w2.heap.size) (by simp); have l11_2 := x11 (w9.heap.size) (by simp)
    go_wp2
    all_goals refine bodyPost_ret (by simp [results, Tryz.results15, go_sem, *] <;> rfl) rfl ?_
    all_goals exact ⟨⟨_, _, _, _, ts, ls, _, _, _, _, _, _, _, _, rfl, ResP.mono (RP.out.kept (by repeat' (first | with_reducible exact Keep.refl _ _ _ | with_reducible refine Keep.setB ?_ ?_ _ | with_reducible refine Keep.alloc ?_ ?_ _ | with_reducible refine Keep.drew ?_ | omega | (simp; done) | (simp; omega)))) (by first | omega | (simp; done) | (simp; omega)) (by first | omega | (simp; done) | (simp; omega))⟩, SS.out.keepS (by repeat' (first | with_reducible exact Keep.refl _ _ _ | with_reducible refine Keep.setB ?_ ?_ _ | with_reducible refine Keep.alloc ?_ ?_ _ | with_reducible refine Keep.drew ?_ | omega | (simp; done) | (simp; omega))), (by repeat' (first | with_reducible exact CC.out | with_reducible exact ChgB.refl _ _ _ | with_reducible refine ChgB.setB ?_ ?_ _ | with_reducible refine ChgB.alloc ?_ _ | with_reducible refine ChgB.drew ?_ | with_reducible refine ChgB.drewN ?_ _ | omega | (simp; done) | (simp; omega)))⟩
  · have hn2 : (n7 == 0) = false := beq_eq_false_iff_ne.2 hn
    obtain ⟨ee1_, hq1⟩ : ∃ x, wrap64 (fa - 1) = x := ⟨_, rfl⟩
    obtain ⟨ee2_, hq2⟩ : ∃ x, (if 1 < ee1_ then ee1_ else 1) = x := ⟨_, rfl⟩
    obtain ⟨ee3_, hq3⟩ : ∃ x, wrap64 (fb + 1) = x := ⟨_, rfl⟩
    obtain ⟨ee4_, hq4⟩ : ∃ x, (if ee2_ < ee3_ then ee2_ else ee3_) = x := ⟨_, rfl⟩
    go_wp2_with fail
    refine (makeDirW_any _ _ _ _).mono ?_; rintro e w9 ⟨⟨pa, pb, pg, pk, rfl⟩, hb9⟩; have s9' := (SS.out.keepS (by repeat' (first | with_reducible exact Keep.refl _ _ _ | with_reducible refine Keep.setB ?_ ?_ _ | with_reducible refine Keep.alloc ?_ ?_ _ | with_reducible refine Keep.drew ?_ | omega | (simp; done) | (simp; omega)))).below hb9 (by first | omega | (simp; done) | (simp; omega)); have ch9 : ChgB S (S + 1) _ _ := ChgB.of_below hb9; clear hb9; have CC := Lib.hid ((show ChgB S (S + 1) w _ from (by repeat' (first | with_reducible exact CC.out | with_reducible exact ChgB.refl _ _ _ | with_reducible refine ChgB.setB ?_ ?_ _ | with_reducible refine ChgB.alloc ?_ _ | with_reducible refine ChgB.drew ?_ | with_reducible refine ChgB.drewN ?_ _ | omega | (simp; done) | (simp; omega)))).trans ch9); have RP := Lib.hid (RP.out.keepB (by repeat' (first | with_reducible exact Keep.refl _ _ _ | with_reducible refine Keep.setB ?_ ?_ _ | with_reducible refine Keep.alloc ?_ ?_ _ | with_reducible refine Keep.drew ?_ | omega | (simp; done) | (simp; omega))) ch9 (by omega) (by first | omega | (simp; done) | (simp; omega))); have SS := Lib.hid s9'; obtain ⟨z9, q9, f9, x9, y9⟩ := ckeepB [w.heap.size, w2.heap.size] (by first | (simp; done) | (simp; omega)) ch9; (try simp only [World.size_alloc, World.size_drew, size_set] at z9); clear s9' ch9; have l9_0 := x9 (w.heap.size) (by simp); have l9_1 := x9 (w2.heap.size) (by simp)
    clear hq1 hq2 hq3 hq4
    have l29 : w2.heap.size < w9.heap.size := by omega
    obtain ⟨nba1, nbb1, nba2, nbb2⟩ : (w.heap.size = w9.heap.size) = False ∧ (w9.heap.size = w.heap.size) = False ∧ (w2.heap.size = w9.heap.size) = False ∧ (w9.heap.size = w2.heap.size) = False := by
      refine ⟨?_, ?_, ?_, ?_⟩ <;> exact eq_false (by omega)
    have sA9_0 : S ≠ w9.heap.size := by omega
    have sB9_0 : w9.heap.size ≠ S := by omega
    have sC9_0 : S < w9.heap.size := by omega
    have sD9_0 : w.heap.size ≤ w9.heap.size := by omega
    go_upto_region 8 with fail
    refine genS (S := fun w' => w.heap.size < w'.heap.size ∧ w2.heap.size < w'.heap.size ∧ w9.heap.size < w'.heap.size ∧ w'.cell? ⟨w.heap.size, 0, none⟩ = some (.slice none 0 0) ∧ w'.cell? ⟨w.heap.size, 1, none⟩ = some (.slice none 0 0) ∧ w'.cell? ⟨w2.heap.size, 0, none⟩ = some (.slice A1 (List.length ts) c1) ∧ w'.cell? ⟨w2.heap.size, 1, none⟩ = some (.slice A2 (List.length ls) c2) ∧ w'.cell? ⟨w9.heap.size, 0, none⟩ = some (.int .i64 pa) ∧ w'.cell? ⟨w9.heap.size, 1, none⟩ = some (.int .i64 pb) ∧ w'.cell? ⟨w9.heap.size, 2, none⟩ = some (.int .i64 pg) ∧ (∀ o, w'.frozen? ⟨w.heap.size, o, none⟩ = false) ∧ ChgB S (S + 1) w w' ∧ SrcAt w' S A c xs ∧ ResP w' (w.heap.size + 1) w2.heap.size A1 c1 A2 c2 ts ls) ⟨by first | omega | (simp; done) | (simp; omega), by first | omega | (simp; done) | (simp; omega), by first | omega | (simp; done) | (simp; omega), by simp [*, go_sem], by simp [*, go_sem], by simp [*, go_sem], by simp [*, go_sem], by simp [*, go_sem], by simp [*, go_sem], by simp [*, go_sem], fun o => by simp [*, go_sem], (by repeat' (first | with_reducible exact CC.out | with_reducible exact ChgB.refl _ _ _ | with_reducible refine ChgB.setB ?_ ?_ _ | with_reducible refine ChgB.alloc ?_ _ | with_reducible refine ChgB.drew ?_ | with_reducible refine ChgB.drewN ?_ _ | omega | (simp; done) | (simp; omega))), SS.out.keepS (by repeat' (first | with_reducible exact Keep.refl _ _ _ | with_reducible refine Keep.setB ?_ ?_ _ | with_reducible refine Keep.alloc ?_ ?_ _ | with_reducible refine Keep.drew ?_ | omega | (simp; done) | (simp; omega))), RP.out.kept (by repeat' (first | with_reducible exact Keep.refl _ _ _ | with_reducible refine Keep.setB ?_ ?_ _ | with_reducible refine Keep.alloc ?_ ?_ _ | with_reducible refine Keep.drew ?_ | omega | (simp; done) | (simp; omega)))⟩ ?_
    clear z4 q4 f4 x4 y4 z5 q5 f5 x5 y5 z6 q6 f6 x6 y6 z7 q7 f7 x7 y7 z9 q9 f9 x9 y9 l4_0 l4_1 l5_0 l5_1 l6_0 l6_1 l7_0 l7_1 l9_0 l9_1 lt3_0 lt3_1 c3_0 c3_1 c3_2 c3_3 fz3_0
    rintro w10 ⟨lt10_0, lt10_1, lt10_2, c10_0, c10_1, c10_2, c10_3, c10_4, c10_5, c10_6, fz10_0, cc, ss, rr_RP⟩
    have CC := Lib.hid cc; have SS := Lib.hid ss; have RP := Lib.hid rr_RP; clear cc ss rr_RP
    go_wp2_with fail
    refine (l08DrawDistance_any S A c xs A1 A2 c1 c2 ts ls _ _ _ _ _ _ (SS.out.keepS (by repeat' (first | with_reducible exact Keep.refl _ _ _ | with_reducible refine Keep.setB ?_ ?_ _ | with_reducible refine Keep.alloc ?_ ?_ _ | with_reducible refine Keep.drew ?_ | omega | (simp; done) | (simp; omega)))) ((RP.out.kept (by repeat' (first | with_reducible exact Keep.refl _ _ _ | with_reducible refine Keep.setB ?_ ?_ _ | with_reducible refine Keep.alloc ?_ ?_ _ | with_reducible refine Keep.drew ?_ | omega | (simp; done) | (simp; omega)))).at)).mono ?_; rintro e w11 ⟨⟨pq, pu, rfl⟩, s11', ch11⟩; have CC := Lib.hid ((show ChgB S (S + 1) w _ from (by repeat' (first | with_reducible exact CC.out | with_reducible exact ChgB.refl _ _ _ | with_reducible refine ChgB.setB ?_ ?_ _ | with_reducible refine ChgB.alloc ?_ _ | with_reducible refine ChgB.drew ?_ | with_reducible refine ChgB.drewN ?_ _ | omega | (simp; done) | (simp; omega)))).trans ch11); have RP := Lib.hid (RP.out.keepB (by repeat' (first | with_reducible exact Keep.refl _ _ _ | with_reducible refine Keep.setB ?_ ?_ _ | with_reducible refine Keep.alloc ?_ ?_ _ | with_reducible refine Keep.drew ?_ | omega | (simp; done) | (simp; omega))) ch11 (by omega) (by first | omega | (simp; done) | (simp; omega))); have SS := Lib.hid s11'; obtain ⟨z11, q11, f11, x11, y11⟩ := ckeepB [w.heap.size, w2.heap.size, w9.heap.size] (by first | (simp; done) | (simp; omega)) ch11; (try simp only [World.size_alloc, World.size_drew, size_set] at z11); clear s11' ch11; have l11_0 := x11 (w.heap.size) (by simp); have l11_1 := x11 (w2.heap.size) (by simp); have l11_2 := x11 (w9.heap.size) (by simp)
    go_wp2
    all_goals refine bodyPost_ret (by simp [results, Tryz.results15, go_sem, *] <;> rfl) rfl ?_
    all_goals exact ⟨⟨_, _, _, _, ts, ls, _, _, _, _, _, _, _, _, rfl, ResP.mono (RP.out.kept (by repeat' (first | with_reducible exact Keep.refl _ _ _ | with_reducible refine Keep.setB ?_ ?_ _ | with_reducible refine Keep.alloc ?_ ?_ _ | with_reducible refine Keep.drew ?_ | omega | (simp; done) | (simp; omega)))) (by first | omega | (simp; done) | (simp; omega)) (by first | omega | (simp; done) | (simp; omega))⟩, SS.out.keepS (by repeat' (first | with_reducible exact Keep.refl _ _ _ | with_reducible refine Keep.setB ?_ ?_ _ | with_reducible refine Keep.alloc ?_ ?_ _ | with_reducible refine Keep.drew ?_ | omega | (simp; done) | (simp; omega))), (by repeat' (first | with_reducible exact CC.out | with_reducible exact ChgB.refl _ _ _ | with_reducible refine ChgB.setB ?_ ?_ _ | with_reducible refine ChgB.alloc ?_ _ | with_reducible refine ChgB.drew ?_ | with_reducible refine ChgB.drewN ?_ _ | omega | (simp; done) | (simp; omega)))⟩
set_option maxRecDepth 100000 in
set_option maxHeartbeats 8000000 in
theorem drawFanVerdicts_any (A : Option Addr) (c : Nat) (xs : List Int) (w : World) (h : BytesAt w A c xs) :
    Calls Tryz.prog 5 #[.slice A xs.length c] w fun e w' => (∃ A1 c1 A2 c2 ts ls k fa fb fc bb st q u, e = .returned (.tuple #[profV A1 (List.length ts) c1 A2 (List.length ls) c2, .int .i64 k, .int .i64 fa, .int .i64 fb, .int .i64 fc, .bool bb, .int .i64 st, .int .i64 q, .int .i64 u]) ∧ ResP w' w.heap.size w'.heap.size A1 c1 A2 c2 ts ls) ∧ Below w.heap.size w w' := by
  have H := Lib.hid h; clear h
  go_enter Tryz.func5, Tryz.ntmps5
  go_wp2_with fail
  refine (l01From_any A c xs _ (H.out.below (B := w.heap.size) (by go_grown) (Nat.le_refl _))).mono ?_
  rintro e w3 ⟨rfl, s3, hb3⟩
  obtain ⟨T3, z3, q3, f3, x3, y3⟩ := lkeep (w := w) [w.heap.size] (by first | (simp; done) | (simp; omega)) (by go_grown) hb3
  simp only [World.size_alloc] at s3
  have hS3 := s3.lt
  have l3_0 := x3 (w.heap.size) (by simp)
  have SS := Lib.hid s3; have BB := Lib.hid T3; clear s3 T3 hb3
  go_wp2_with (go_at_call 15; refine (l08DrawAll_any (w.heap.size + 1) A c xs _ (SS.out.keepS (by repeat' (first | with_reducible exact Keep.refl _ _ _ | with_reducible refine Keep.setB ?_ ?_ _ | with_reducible refine Keep.alloc ?_ ?_ _ | with_reducible refine Keep.drew ?_ | omega | (simp; done) | (simp; omega))))).mono ?_; rintro e w4 ⟨⟨A1, c1, A2, c2, ts, ls, kk, fa, fb, fc, bb, st, pq, pu, rfl, rp⟩, s4', ch4⟩; have BB := Lib.hid ((show Below w.heap.size w _ from (by first | with_reducible exact BB.out | (have hb_ := BB.out; go_grown; done) | (have hb_ := BB.out; exact bdrewN (by go_grown) _))).trans (ch4.below (by omega) (by first | omega | (simp; done) | (simp; omega)))); have SS := Lib.hid s4'; obtain ⟨z4, q4, f4, x4, y4⟩ := ckeepB [w.heap.size] (by first | (simp; done) | (simp; omega)) ch4; (try simp only [World.size_alloc, World.size_drew, size_set] at z4); clear s4' ch4; have l4_0 := x4 (w.heap.size) (by simp); have RP := Lib.hid rp; clear rp)
  all_goals refine bodyPost_ret (by simp [results, Tryz.results5, go_sem, *] <;> rfl) rfl ?_
  all_goals exact ⟨⟨_, _, _, _, ts, ls, _, _, _, _, _, _, _, _, rfl, ResP.mono (RP.out.kept (by repeat' (first | with_reducible exact Keep.refl _ _ _ | with_reducible refine Keep.setB ?_ ?_ _ | with_reducible refine Keep.alloc ?_ ?_ _ | with_reducible refine Keep.drew ?_ | omega | (simp; done) | (simp; omega)))) (by first | omega | (simp; done) | (simp; omega)) (by first | omega | (simp; done) | (simp; omega))⟩, (by first | with_reducible exact BB.out | (have hb_ := BB.out; go_grown; done) | (have hb_ := BB.out; exact bdrewN (by go_grown) _))⟩
end

section
set_option linter.unusedSimpArgs false
set_option linter.unusedVariables false
open Go.RowKit

def fanB (n lo hi : Int) : Bool := inB n 2 1000 && inB hi 1 (n - 1) && inB lo 1 hi && decide (n * n + hi * hi ≤ 1000)
theorem fan_md {n lo hi m : Int} (h : fanB n lo hi = true) (h1 : lo ≤ m) (h2 : m ≤ hi) : mdB m n = true := by
  simp only [fanB, Bool.and_eq_true, decide_eq_true_eq] at h
  obtain ⟨⟨⟨a, b⟩, c⟩, d⟩ := h
  have b' := inB_bd b; have c' := inB_bd c
  have e := Int.mul_le_mul h2 h2 (by omega) (by omega)
  have f : inB m 1 (n - 1) = true := by simp [inB]; omega
  unfold mdB
  rw [a, f, decide_eq_true (show n * n + m * m ≤ 1000 by omega)]; rfl
structure FanOk (n lo hi : Int) : Prop where
  n0 : 2 ≤ n
  n1 : n ≤ 31
  l0 : 1 ≤ lo
  l1 : lo ≤ hi
  h1 : hi ≤ n - 1
theorem fan_ok {n lo hi : Int} (h : fanB n lo hi = true) : FanOk n lo hi := by
  have g := h
  simp only [fanB, Bool.and_eq_true, decide_eq_true_eq] at g
  obtain ⟨⟨⟨a, b⟩, c⟩, d⟩ := g
  have a' := inB_bd a; have b' := inB_bd b; have c' := inB_bd c
  have k := mdOk_of (fan_md h c'.2 (Int.le_refl hi))
  exact ⟨a'.1, k.n1, c'.1, c'.2, b'.2⟩
/-- the cells of a direction of a fan -/
def fanE (n : Int) (dn : Bool) (m : Int) : List Value := [.int .i64 (mdC m n), .int .i64 (mdS m n dn), .int .i64 (mdH m n)]
def fanL (n lo : Int) (dn : Bool) (k : Nat) : List (List Value) := (List.range k).map fun (i : Nat) => fanE n dn (lo + (i : Int))
theorem fanL_len (n lo : Int) (dn : Bool) (k : Nat) : (fanL n lo dn k).length = k := by rw [fanL, List.length_map, List.length_range]
theorem fanL_next (n lo : Int) (dn : Bool) (k : Nat) : fanL n lo dn (k + 1) = fanL n lo dn k ++ [fanE n dn (lo + k)] := by rw [fanL, List.range_succ, List.map_append]; rfl
theorem fanL_three (n lo : Int) (dn : Bool) (k : Nat) : ∀ x ∈ fanL n lo dn k, x.length = 3 := fun x h => by
  obtain ⟨i, -, rfl⟩ := List.mem_map.1 h; rfl
theorem fan_cells {w : World} {A : Option Addr} {c K k : Nat} {n lo : Int} {dn : Bool} (h : KAt w A c 3 (fanL n lo dn K)) (hk : k < K) :
    ∃ b off, A = some ⟨b, off, none⟩ ∧ b < w.heap.size ∧ w.cell? ⟨b, off + k * 3, none⟩ = some (.int .i64 (mdC (lo + k) n)) ∧ w.cell? ⟨b, off + k * 3 + 1, none⟩ = some (.int .i64 (mdS (lo + k) n dn)) ∧ w.cell? ⟨b, off + k * 3 + 2, none⟩ = some (.int .i64 (mdH (lo + k) n)) := by
  obtain ⟨b, off, e, rfl, hb, he, hc⟩ := h.at_ (i := k) (by rw [fanL_len]; exact hk)
  rw [fanL, List.getElem?_map, List.getElem?_range hk] at he
  simp only [Option.map_some, Option.some.injEq] at he
  subst he
  exact ⟨b, off, rfl, hb, by have := hc 0 _ rfl; simpa using this, hc 1 _ rfl, hc 2 _ rfl⟩
theorem infoDir : (Tryz.prog.info? 37).map (fun i => (i.zero, i.size, i.bytes)) = some (some (.agg #[.int .i64 0, .int .i64 0, .int .i64 0]), 3, 24) := by kernel_rfl
/-- the directions of a fan are directions -/
def mdChk : Bool := (List.range 32).all fun n => (List.range 32).all fun m =>
  !mdB m n || (dirB (((n : Int) * n - m * m) / mdG m n) (2 * m * n / mdG m n) (((n : Int) * n + m * m) / mdG m n) && dirB (((n : Int) * n - m * m) / mdG m n) (-(2 * m * n / mdG m n)) (((n : Int) * n + m * m) / mdG m n))
theorem mdChk_true : mdChk = true := by decide +kernel
theorem md_dir {m n : Int} (dn : Bool) (h : mdB m n = true) : dirB (mdC m n) (mdS m n dn) (mdH m n) = true := by
  obtain ⟨g1, g2, g3, g4, -⟩ := md_good h
  have k := mdOk_of h
  obtain ⟨a, rfl⟩ := Int.eq_ofNat_of_zero_le (show 0 ≤ m by have := k.m0; omega)
  obtain ⟨b, rfl⟩ := Int.eq_ofNat_of_zero_le (show 0 ≤ n by have := k.n0; omega)
  have q := mdChk_true
  unfold mdChk at q
  have q1 := List.all_eq_true.1 (List.all_eq_true.1 q b (List.mem_range.2 (by have := k.n1; omega))) a (List.mem_range.2 (by have := k.m1; have := k.n1; omega))
  rw [h] at q1
  simp only [Bool.not_true, Bool.false_or, Bool.and_eq_true] at q1
  rw [g1, g4]
  cases dn
  · rw [g3]; exact q1.2
  · rw [g2]; exact q1.1
theorem md_sign {m n : Int} (dn : Bool) (h : mdB m n = true) : decide (0 < mdS m n dn) = dn := by
  obtain ⟨g1, g2, g3, g4, -⟩ := md_good h
  have k := mdOk_of h
  have hd : mdG m n ∣ 2 * m * n := by unfold mdG; exact Int.dvd_trans (Int.gcd_dvd_left _ _) (Int.gcd_dvd_right _ _)
  have hp : 0 < 2 * m * n / mdG m n := Int.ediv_pos_of_pos_of_dvd (by have := k.mn2; have := k.mn0; omega) (by have := k.g0; omega) hd
  cases dn
  · rw [g3]; exact decide_eq_false (by omega)
  · rw [g2]; exact decide_eq_true hp
set_option maxHeartbeats 1000000 in
theorem specIsFan_any (n lo hi : Int) (w : World) :
    Calls Tryz.prog 49 #[.int .i64 n, .int .i64 lo, .int .i64 hi] w fun e w' => e = .returned (.bool (fanB n lo hi)) ∧ Below w.heap.size w w' := by
  rcases Bool.eq_false_or_eq_true (inB n 2 1000) with h1 | h1
  rotate_left
  · have HE : Hid (fanB n lo hi = false) := Lib.hid (by simp [fanB, h1])
    go_enter Tryz.func49, Tryz.ntmps49
    go_wp2_with (go_at_call 53; refine (l01In_any _ _ _ _).mono ?_; rintro e w' ⟨rfl, rfl⟩)
    all_goals go_ret
    all_goals exact ⟨ret_bool (by rw [HE.out] <;> first | exact decide_eq_false (by omega) | exact decide_eq_true (by omega)), by go_grown⟩
  have a := inB_bd h1
  rcases Bool.eq_false_or_eq_true (inB hi 1 (n - 1)) with h2 | h2
  rotate_left
  · have HE : Hid (fanB n lo hi = false) := Lib.hid (by simp [fanB, h1, h2])
    go_enter Tryz.func49, Tryz.ntmps49
    go_wp2_with (go_at_call 53; refine (l01In_any _ _ _ _).mono ?_; rintro e w' ⟨rfl, rfl⟩)
    all_goals go_ret
    all_goals exact ⟨ret_bool (by rw [HE.out] <;> first | exact decide_eq_false (by omega) | exact decide_eq_true (by omega)), by go_grown⟩
  have b := inB_bd h2
  rcases Bool.eq_false_or_eq_true (inB lo 1 hi) with h3 | h3
  rotate_left
  · have HE : Hid (fanB n lo hi = false) := Lib.hid (by simp [fanB, h1, h2, h3])
    go_enter Tryz.func49, Tryz.ntmps49
    go_wp2_with (go_at_call 53; refine (l01In_any _ _ _ _).mono ?_; rintro e w' ⟨rfl, rfl⟩)
    all_goals go_ret
    all_goals exact ⟨ret_bool (by rw [HE.out] <;> first | exact decide_eq_false (by omega) | exact decide_eq_true (by omega)), by go_grown⟩
  have e1 := Int.mul_le_mul a.2 a.2 (show 0 ≤ n by omega) (by omega)
  have e2 := Int.mul_nonneg (show 0 ≤ n by omega) (show 0 ≤ n by omega)
  have e3 := Int.mul_le_mul (show hi ≤ 1000 by omega) (show hi ≤ 1000 by omega) (show 0 ≤ hi by omega) (by omega)
  have e4 := Int.mul_nonneg (show 0 ≤ hi by omega) (show 0 ≤ hi by omega)
  by_cases h4 : n * n + hi * hi ≤ 1000
  · have HE : Hid (fanB n lo hi = true) := Lib.hid (by simp [fanB, h1, h2, h3, h4])
    go_enter Tryz.func49, Tryz.ntmps49
    go_wp2_with (go_at_call 53; refine (l01In_any _ _ _ _).mono ?_; rintro e w' ⟨rfl, rfl⟩)
    all_goals go_ret
    all_goals exact ⟨ret_bool (by rw [HE.out] <;> first | exact decide_eq_false (by omega) | exact decide_eq_true (by omega)), by go_grown⟩
  · have HE : Hid (fanB n lo hi = false) := Lib.hid (by simp [fanB, h1, h2, h3, h4])
    go_enter Tryz.func49, Tryz.ntmps49
    go_wp2_with (go_at_call 53; refine (l01In_any _ _ _ _).mono ?_; rintro e w' ⟨rfl, rfl⟩)
    all_goals go_ret
    all_goals exact ⟨ret_bool (by rw [HE.out] <;> first | exact decide_eq_false (by omega) | exact decide_eq_true (by omega)), by go_grown⟩
set_option maxHeartbeats 1000000 in
theorem implIsFan_any (n lo hi : Int) (w : World) :
    Calls Tryz.prog 40 #[.int .i64 n, .int .i64 lo, .int .i64 hi] w fun e w' => e = .returned (.bool (fanB n lo hi)) ∧ Below w.heap.size w w' := by
  rcases Bool.eq_false_or_eq_true (inB n 2 1000) with h1 | h1
  rotate_left
  · have HE : Hid (fanB n lo hi = false) := Lib.hid (by simp [fanB, h1])
    go_enter Tryz.func40, Tryz.ntmps40
    go_wp2_with (go_at_call 25; refine (within_any _ _ _ _).mono ?_; rintro e w' ⟨rfl, rfl⟩)
    all_goals go_ret
    all_goals exact ⟨ret_bool (by rw [HE.out] <;> first | exact decide_eq_false (by omega) | exact decide_eq_true (by omega)), by go_grown⟩
  have a := inB_bd h1
  rcases Bool.eq_false_or_eq_true (inB hi 1 (n - 1)) with h2 | h2
  rotate_left
  · have HE : Hid (fanB n lo hi = false) := Lib.hid (by simp [fanB, h1, h2])
    go_enter Tryz.func40, Tryz.ntmps40
    go_wp2_with (go_at_call 25; refine (within_any _ _ _ _).mono ?_; rintro e w' ⟨rfl, rfl⟩)
    all_goals go_ret
    all_goals exact ⟨ret_bool (by rw [HE.out] <;> first | exact decide_eq_false (by omega) | exact decide_eq_true (by omega)), by go_grown⟩
  have b := inB_bd h2
  rcases Bool.eq_false_or_eq_true (inB lo 1 hi) with h3 | h3
  rotate_left
  · have HE : Hid (fanB n lo hi = false) := Lib.hid (by simp [fanB, h1, h2, h3])
    go_enter Tryz.func40, Tryz.ntmps40
    go_wp2_with (go_at_call 25; refine (within_any _ _ _ _).mono ?_; rintro e w' ⟨rfl, rfl⟩)
    all_goals go_ret
    all_goals exact ⟨ret_bool (by rw [HE.out] <;> first | exact decide_eq_false (by omega) | exact decide_eq_true (by omega)), by go_grown⟩
  have e1 := Int.mul_le_mul a.2 a.2 (show 0 ≤ n by omega) (by omega)
  have e2 := Int.mul_nonneg (show 0 ≤ n by omega) (show 0 ≤ n by omega)
  have e3 := Int.mul_le_mul (show hi ≤ 1000 by omega) (show hi ≤ 1000 by omega) (show 0 ≤ hi by omega) (by omega)
  have e4 := Int.mul_nonneg (show 0 ≤ hi by omega) (show 0 ≤ hi by omega)
  by_cases h4 : n * n + hi * hi ≤ 1000
  · have HE : Hid (fanB n lo hi = true) := Lib.hid (by simp [fanB, h1, h2, h3, h4])
    go_enter Tryz.func40, Tryz.ntmps40
    go_wp2_with (go_at_call 25; refine (within_any _ _ _ _).mono ?_; rintro e w' ⟨rfl, rfl⟩)
    all_goals go_ret
    all_goals exact ⟨ret_bool (by rw [HE.out] <;> first | exact decide_eq_false (by omega) | exact decide_eq_true (by omega)), by go_grown⟩
  · have HE : Hid (fanB n lo hi = false) := Lib.hid (by simp [fanB, h1, h2, h3, h4])
    go_enter Tryz.func40, Tryz.ntmps40
    go_wp2_with (go_at_call 25; refine (within_any _ _ _ _).mono ?_; rintro e w' ⟨rfl, rfl⟩)
    all_goals go_ret
    all_goals exact ⟨ret_bool (by rw [HE.out] <;> first | exact decide_eq_false (by omega) | exact decide_eq_true (by omega)), by go_grown⟩
set_option maxRecDepth 100000 in
set_option maxHeartbeats 4000000 in
theorem makeDir_any (m n : Int) (dn : Bool) (w : World) (hb : mdB m n = true) :
    Calls Tryz.prog 26 #[.int .i64 m, .int .i64 n, .bool dn] w fun e w' => e = .returned (dirV (mdC m n) (mdS m n dn) (mdH m n)) ∧ Below w.heap.size w w' := by
  obtain ⟨g1, g2, g3, g4, g5⟩ := md_good hb
  obtain ⟨k1, k2, k3, k4, k5, k6, k7, k8, k9, k10, k11, k12, k13, k14, k15⟩ := mdOk_of hb
  have G1 := Lib.hid g1; have G2 := Lib.hid g2; have G3 := Lib.hid g3; have G4 := Lib.hid g4; have G5 := Lib.hid g5
  have K11 := Lib.hid k11
  obtain ⟨mn, hmn⟩ : ∃ mn, m * n = mn := ⟨_, rfl⟩
  clear g1 g2 g3 g4 g5 hb
  have s1 : 0 ≤ 2 * m * n := by omega
  have s2 : 2 * m * n ≤ 1860 := by omega
  clear hmn k11
  go_enter Tryz.func26, Tryz.ntmps26
  go_upto_region 2 with fail
  have hG0 : mdG m n = ((Int.gcd ((Int.gcd (n * n - m * m) (2 * m * n) : Nat) : Int) (n * n + m * m) : Nat) : Int) := rfl
  have d0 : 0 < n * n - m * m := by omega
  have d1 : n * n - m * m ≤ 1000 := by omega
  have d2 : 0 < n * n + m * m := by omega
  generalize n * n - m * m = C at *
  generalize 2 * m * n = Sx at *
  generalize n * n + m * m = Hh at *
  generalize mdG m n = G at *
  have hd : ((Int.gcd C Sx : Nat) : Int) ∣ C := Int.gcd_dvd_left C Sx
  have hd2 := Int.le_of_dvd (by omega) hd
  have hd3 : (0 : Int) ≤ ((Int.gcd C Sx : Nat) : Int) := Int.natCast_nonneg _
  clear hd
  have v1_ : 0 ≤ C / G ∧ C / G ≤ C := ⟨Int.ediv_nonneg (by omega) (by omega), Int.ediv_le_self _ (by omega)⟩
  have v2_ : 0 ≤ Sx / G ∧ Sx / G ≤ Sx := ⟨Int.ediv_nonneg (by omega) (by omega), Int.ediv_le_self _ (by omega)⟩
  have v3_ : 0 ≤ Hh / G ∧ Hh / G ≤ Hh := ⟨Int.ediv_nonneg (by omega) (by omega), Int.ediv_le_self _ (by omega)⟩
  obtain ⟨C', hC'⟩ : ∃ x, C / G = x := ⟨_, rfl⟩
  obtain ⟨S', hS'⟩ : ∃ x, Sx / G = x := ⟨_, rfl⟩
  obtain ⟨H', hH'⟩ : ∃ x, Hh / G = x := ⟨_, rfl⟩
  have T1 : C.tdiv G = C' := by rw [Int.tdiv_eq_ediv_of_nonneg (by omega)]; exact hC'
  have T2 : Sx.tdiv G = S' := by rw [Int.tdiv_eq_ediv_of_nonneg (by omega)]; exact hS'
  have T3 : Hh.tdiv G = H' := by rw [Int.tdiv_eq_ediv_of_nonneg (by omega)]; exact hH'
  rw [hC'] at v1_
  rw [hS'] at v2_
  rw [hH'] at v3_
  have HG := Lib.hid hG0; have HC' := Lib.hid hC'; have HS' := Lib.hid hS'; have HH' := Lib.hid hH'; have HT := Lib.hid (And.intro T1 (And.intro T2 T3))
  clear hG0 hC' hS' hH' T1 T2 T3
  refine genS (S := fun w' => Below w.heap.size w w' ∧ w.heap.size + 1 < w'.heap.size ∧ w'.cell? ⟨w.heap.size, 0, none⟩ = some (.int .i64 0) ∧ w'.cell? ⟨w.heap.size, 1, none⟩ = some (.int .i64 0) ∧ w'.cell? ⟨w.heap.size, 2, none⟩ = some (.int .i64 0) ∧ w'.cell? ⟨w.heap.size + 1, 0, none⟩ = some (.int .i64 C) ∧ w'.cell? ⟨w.heap.size + 1, 1, none⟩ = some (.int .i64 Sx) ∧ w'.cell? ⟨w.heap.size + 1, 2, none⟩ = some (.int .i64 Hh) ∧ (∀ o, w'.frozen? ⟨w.heap.size, o, none⟩ = false) ∧ (∀ o, w'.frozen? ⟨w.heap.size + 1, o, none⟩ = false)) ⟨by go_grown, by first | omega | (simp; done) | (simp; omega), by simp [*, go_sem], by simp [*, go_sem], by simp [*, go_sem], by simp [*, go_sem], by simp [*, go_sem], by simp [*, go_sem], fun o => by simp [*, go_sem], fun o => by simp [*, go_sem]⟩ ?_
  rintro w3 ⟨B3, lt3, r0, r1, r2, r3, r4, r5, fR, fD⟩
  clear k5 k6 k7 k8 k9 k10
  go_quiet ((go_at_call 54; exact q_drew (gcd_q _ _ _ (by omega) (by omega) (by omega) (by omega))))
  rw [← HG.out]
  obtain ⟨t1, t2, t3⟩ := HT.out
  have gnz : ¬ G = 0 := by omega
  have u1 : 0 ≤ C' := v1_.1
  have u2 : C' ≤ 1000 := by omega
  have u3 : 0 ≤ S' := v2_.1
  have u4 : S' ≤ 2000 := by omega
  have u5 : 0 ≤ H' := v3_.1
  have u6 : H' ≤ 1000 := by omega
  go_upto_region 3 with fail
  refine genS (S := fun w' => Below w.heap.size w w' ∧ w.heap.size + 1 < w'.heap.size ∧ w'.cell? ⟨w.heap.size, 0, none⟩ = some (.int .i64 0) ∧ w'.cell? ⟨w.heap.size, 1, none⟩ = some (.int .i64 0) ∧ w'.cell? ⟨w.heap.size, 2, none⟩ = some (.int .i64 0) ∧ w'.cell? ⟨w.heap.size + 1, 0, none⟩ = some (.int .i64 C) ∧ w'.cell? ⟨w.heap.size + 1, 1, none⟩ = some (.int .i64 Sx) ∧ w'.cell? ⟨w.heap.size + 1, 2, none⟩ = some (.int .i64 Hh) ∧ (∀ o, w'.frozen? ⟨w.heap.size, o, none⟩ = false) ∧ (∀ o, w'.frozen? ⟨w.heap.size + 1, o, none⟩ = false)) ⟨(by first | exact B3 | exact bdrewN B3 _), by first | omega | (simp; done) | (simp; omega), by simp [*, go_sem], by simp [*, go_sem], by simp [*, go_sem], by simp [*, go_sem], by simp [*, go_sem], by simp [*, go_sem], fun o => by simp [*, go_sem], fun o => by simp [*, go_sem]⟩ ?_
  clear B3 lt3 r0 r1 r2 r3 r4 r5 fR fD v1_ v2_ v3_ s1 s2 hd2 hd3
  rintro w4 ⟨B4, lt4, r0, r1, r2, r3, r4, r5, fR, fD⟩
  have ne1 : (w.heap.size = w.heap.size + 1) = False := eq_false (by omega)
  go_region
  refine genS (S := fun w' => Below w.heap.size w w' ∧ w.heap.size + 1 < w'.heap.size ∧ w'.cell? ⟨w.heap.size, 0, none⟩ = some (.int .i64 0) ∧ w'.cell? ⟨w.heap.size, 1, none⟩ = some (.int .i64 0) ∧ w'.cell? ⟨w.heap.size, 2, none⟩ = some (.int .i64 0) ∧ w'.cell? ⟨w.heap.size + 1, 0, none⟩ = some (.int .i64 C') ∧ w'.cell? ⟨w.heap.size + 1, 1, none⟩ = some (.int .i64 S') ∧ w'.cell? ⟨w.heap.size + 1, 2, none⟩ = some (.int .i64 H') ∧ (∀ o, w'.frozen? ⟨w.heap.size, o, none⟩ = false) ∧ (∀ o, w'.frozen? ⟨w.heap.size + 1, o, none⟩ = false)) ⟨(by first | (go_grown; done) | exact bdrewN (by go_grown) _), by first | omega | (simp; done) | (simp; omega), by simp [*, go_sem], by simp [*, go_sem], by simp [*, go_sem], by simp [*, go_sem], by simp [*, go_sem], by simp [*, go_sem], fun o => by simp [*, go_sem], fun o => by simp [*, go_sem]⟩ ?_
  clear B4 lt4 r0 r1 r2 r3 r4 r5 fR fD
  rintro w5 ⟨B5, lt5, r0, r1, r2, r3, r4, r5, fR, fD⟩
  cases dn with
  | true =>
    go_wp2
    refine bodyPost_ret (v := dirV C' S' H') (by simp [results, Tryz.results26, go_sem, *] <;> rfl) rfl ?_
    exact ⟨by rw [G1.out, G2.out, G4.out, HC'.out, HS'.out, HH'.out], by first | (go_grown; done) | exact bdrewN (by go_grown) _⟩
  | false =>
    go_upto_region 6 with fail
    refine genS (S := fun w' => Below w.heap.size w w' ∧ w.heap.size + 1 < w'.heap.size ∧ w'.cell? ⟨w.heap.size, 0, none⟩ = some (.int .i64 0) ∧ w'.cell? ⟨w.heap.size, 1, none⟩ = some (.int .i64 0) ∧ w'.cell? ⟨w.heap.size, 2, none⟩ = some (.int .i64 0) ∧ w'.cell? ⟨w.heap.size + 1, 0, none⟩ = some (.int .i64 C') ∧ w'.cell? ⟨w.heap.size + 1, 1, none⟩ = some (.int .i64 (-S')) ∧ w'.cell? ⟨w.heap.size + 1, 2, none⟩ = some (.int .i64 H') ∧ (∀ o, w'.frozen? ⟨w.heap.size, o, none⟩ = false)) ⟨(by first | (go_grown; done) | exact bdrewN (by go_grown) _), by first | omega | (simp; done) | (simp; omega), by simp [*, go_sem], by simp [*, go_sem], by simp [*, go_sem], by simp [*, go_sem], by simp [*, go_sem], by simp [*, go_sem], fun o => by simp [*, go_sem]⟩ ?_
    clear B5 lt5 r0 r1 r2 r3 r4 r5 fR fD
    rintro w6 ⟨B6, lt6, r0, r1, r2, r3, r4, r5, fR⟩
    go_wp2
    refine bodyPost_ret (v := dirV C' (-S') H') (by simp [results, Tryz.results26, go_sem, *] <;> rfl) rfl ?_
    exact ⟨by rw [G1.out, G3.out, G4.out, HC'.out, HS'.out, HH'.out], by first | (go_grown; done) | exact bdrewN (by go_grown) _⟩
set_option maxRecDepth 4000 in
set_option maxHeartbeats 4000000 in
theorem l08Fan_any (n lo hi : Int) (dn : Bool) (K : Nat) (w : World) (hf : fanB n lo hi = true) (hK1 : hi + 1 ≤ lo + K) (hK2 : lo + K ≤ hi + 1) :
    Calls Tryz.prog 50 #[.int .i64 n, .int .i64 lo, .int .i64 hi, .bool dn] w fun e w' =>
      (∃ A' c', e = .returned (.slice A' K c') ∧ ResK w' w.heap.size w'.heap.size A' c' 3 (fanL n lo dn K)) ∧ Below w.heap.size w w' := by
  obtain ⟨f1, f2, f3, f4, f5⟩ := fan_ok hf
  go_enter Tryz.func50, Tryz.ntmps50
  go_wp2
  go_loopw [9, 10] (fun v i wr => Below w.heap.size w wr ∧ ∃ k : Nat, k ≤ K ∧ i = .int .i64 (lo + k) ∧ OwnK wr w.heap.size 37 3 v (fanL n lo dn k)) (fun _ i _ => (hi + 1 - intOf i).toNat)
  case atStart => exact ⟨by first | exact Below.refl _ _ | go_grown, 0, by omega, by first | rfl | (simp; done) | go_num, OwnK.zero (Nat.le_refl _)⟩
  case round =>
    obtain ⟨Br, k, hk, rfl, A', c', rfl, hc', hown, hall⟩ := hrel
    simp only [fanL_len] at hown ⊢
    have HO := Lib.hid hown; have HA := Lib.hid hall; clear hown hall
    have sr := Br.size
    have HBr := Lib.hid Br
    clear Br
    by_cases hlt : k < K
    · have g1 : lo + (k : Int) ≤ hi := by omega
      go_wp2_with (first
        | (go_at_call 37; refine (specMakeDir_any _ _ _ _).mono ?_; rintro e w4 ⟨rfl, hb4⟩; have K4 := Keep.of_below (lo := w.heap.size) hb4; obtain ⟨B4, hz4, q4, s4, t4, x4, y4, z4⟩ := bkeep (w := wr) [] (by first | (simp; done) | (simp; omega)) (by first | (go_grown; done) | exact bdrewN (by go_grown) _) hb4; (try simp at hz4); clear hb4)
        | (at_builtin; refine appG rfl _ _ 54 rfl w.heap.size 37 (.agg #[.int .i64 0, .int .i64 0, .int .i64 0]) 3 24 Tryz.underlying54 infoDir rfl (by omega) (fanE n dn (lo + k)) rfl (by intro u hu; simp [fanE] at hu; rcases hu with rfl | rfl | rfl <;> rfl) _ _ _ rfl _ rfl (own_keep HO.out (by repeat' (first | with_reducible exact K4 | with_reducible exact Keep.refl _ _ _ | with_reducible refine Keep.setB ?_ ?_ _ | with_reducible refine Keep.alloc ?_ ?_ _ | with_reducible refine Keep.drew ?_ | omega | (simp; done) | (simp; omega)))) ?_ ?_ ?_ ?_ ?_; (focus (intro j u hj; match j, hj with | 0, hj => (simp [fanE] at hj; subst hj; simp [*, go_sem]) | 1, hj => (simp [fanE] at hj; subst hj; simp [*, go_sem]) | 2, hj => (simp [fanE] at hj; subst hj; simp [*, go_sem]) | j + 3, hj => simp [fanE] at hj)); (focus (unfold maxLen; omega)); (focus omega); (focus (first | omega | (simp; omega))); intro v6 w6 hown6 hg6 _; have C6 := Below.grow (B := w.heap.size) (w0 := w) (by have hb_ := HBr.out.trans (B4.mono (show w.heap.size ≤ wr.heap.size by omega)); first | exact hb_ | (go_grown; done)) hg6 (fun b hb => by have := HO.out.lt b hb; omega) (by first | omega | (simp; omega)); clear hg6; obtain ⟨A14, c14, rfl, hc14⟩ := owns_form hown6; have O6 := Lib.hid hown6; clear hown6))
      go_roundw
      case rel => exact ⟨C6, k + 1, by omega, by first | go_num | (simp; omega), OwnK.next (els := fanL n lo dn k) (fanL_next _ _ _ _) (by rw [fanL_len]; exact O6.out) HA.out rfl⟩
      case measure => simp [intOf]; omega
    · obtain rfl : k = K := by omega
      have g1 : hi < lo + (k : Int) := by omega
      go_wp2
      go_ret
      refine ⟨⟨A', c', rfl, ?_⟩, HBr.out⟩
      exact ((OwnK.res (n := k) (els := fanL n lo dn k) ⟨A', c', by rw [fanL_len], hc', by rw [fanL_len]; exact HO.out, HA.out⟩).2).mono (by omega) (Nat.le_refl _)
set_option maxRecDepth 4000 in
set_option maxHeartbeats 4000000 in
theorem fanOf_any (n lo hi : Int) (dn : Bool) (K : Nat) (w : World) (hf : fanB n lo hi = true) (hK1 : hi + 1 ≤ lo + K) (hK2 : lo + K ≤ hi + 1) :
    Calls Tryz.prog 19 #[.int .i64 n, .int .i64 lo, .int .i64 hi, .bool dn] w fun e w' =>
      (∃ A' c', e = .returned (.slice A' K c') ∧ ResK w' w.heap.size w'.heap.size A' c' 3 (fanL n lo dn K)) ∧ Below w.heap.size w w' := by
  obtain ⟨f1, f2, f3, f4, f5⟩ := fan_ok hf
  go_enter Tryz.func19, Tryz.ntmps19
  go_wp2
  go_loopw [9, 10] (fun v i wr => Below w.heap.size w wr ∧ ∃ k : Nat, k ≤ K ∧ i = .int .i64 (lo + k) ∧ OwnK wr w.heap.size 37 3 v (fanL n lo dn k)) (fun _ i _ => (hi + 1 - intOf i).toNat)
  case atStart => exact ⟨by first | exact Below.refl _ _ | go_grown, 0, by omega, by first | rfl | (simp; done) | go_num, OwnK.none_ _ _ _ _⟩
  case round =>
    obtain ⟨Br, k, hk, rfl, A', c', rfl, hc', hown, hall⟩ := hrel
    simp only [fanL_len] at hown ⊢
    have HO := Lib.hid hown; have HA := Lib.hid hall; clear hown hall
    have sr := Br.size
    have HBr := Lib.hid Br
    clear Br
    by_cases hlt : k < K
    · have g1 : lo + (k : Int) ≤ hi := by omega
      go_wp2_with (first
        | (go_at_call 26; refine (makeDir_any _ _ _ _ (fan_md hf (by omega) (by omega))).mono ?_; rintro e w4 ⟨rfl, hb4⟩; have K4 := Keep.of_below (lo := w.heap.size) hb4; obtain ⟨B4, hz4, q4, s4, t4, x4, y4, z4⟩ := bkeep (w := wr) [] (by first | (simp; done) | (simp; omega)) (by first | (go_grown; done) | exact bdrewN (by go_grown) _) hb4; (try simp at hz4); clear hb4)
        | (at_builtin; refine appG rfl _ _ 54 rfl w.heap.size 37 (.agg #[.int .i64 0, .int .i64 0, .int .i64 0]) 3 24 Tryz.underlying54 infoDir rfl (by omega) (fanE n dn (lo + k)) rfl (by intro u hu; simp [fanE] at hu; rcases hu with rfl | rfl | rfl <;> rfl) _ _ _ rfl _ rfl (own_keep HO.out (by repeat' (first | with_reducible exact K4 | with_reducible exact Keep.refl _ _ _ | with_reducible refine Keep.setB ?_ ?_ _ | with_reducible refine Keep.alloc ?_ ?_ _ | with_reducible refine Keep.drew ?_ | omega | (simp; done) | (simp; omega)))) ?_ ?_ ?_ ?_ ?_; (focus (intro j u hj; match j, hj with | 0, hj => (simp [fanE] at hj; subst hj; simp [*, go_sem]) | 1, hj => (simp [fanE] at hj; subst hj; simp [*, go_sem]) | 2, hj => (simp [fanE] at hj; subst hj; simp [*, go_sem]) | j + 3, hj => simp [fanE] at hj)); (focus (unfold maxLen; omega)); (focus omega); (focus (first | omega | (simp; omega))); intro v6 w6 hown6 hg6 _; have C6 := Below.grow (B := w.heap.size) (w0 := w) (by have hb_ := HBr.out.trans (B4.mono (show w.heap.size ≤ wr.heap.size by omega)); first | exact hb_ | (go_grown; done)) hg6 (fun b hb => by have := HO.out.lt b hb; omega) (by first | omega | (simp; omega)); clear hg6; obtain ⟨A14, c14, rfl, hc14⟩ := owns_form hown6; have O6 := Lib.hid hown6; clear hown6))
      go_roundw
      case rel => exact ⟨C6, k + 1, by omega, by first | go_num | (simp; omega), OwnK.next (els := fanL n lo dn k) (fanL_next _ _ _ _) (by rw [fanL_len]; exact O6.out) HA.out rfl⟩
      case measure => simp [intOf]; omega
    · obtain rfl : k = K := by omega
      have g1 : hi < lo + (k : Int) := by omega
      go_wp2
      go_ret
      refine ⟨⟨A', c', rfl, ?_⟩, HBr.out⟩
      exact ((OwnK.res (n := k) (els := fanL n lo dn k) ⟨A', c', by rw [fanL_len], hc', by rw [fanL_len]; exact HO.out, HA.out⟩).2).mono (by omega) (Nat.le_refl _)
end

section
set_option linter.unusedSimpArgs false
set_option linter.unusedVariables false
open Go.RowKit

theorem fan_ray {ds ss : List Int} {src n lo hi m : Int} (dn : Bool) (hp : profB ds ss = true) (hf : fanB n lo hi = true) (s0 : 0 ≤ src) (s1 : src ≤ (ds.length : Int) - 1) (h1 : lo ≤ m) (h2 : m ≤ hi) : RayOk ds ss src (mdC m n) (mdS m n dn) (mdH m n) :=
  rayOk_of hp (md_dir dn (fan_md hf h1 h2)) s0 s1
theorem fan_sign {n lo hi m m' : Int} (dn : Bool) (hf : fanB n lo hi = true) (h1 : lo ≤ m) (h2 : m ≤ hi) (h3 : lo ≤ m') (h4 : m' ≤ hi) : decide (0 < mdS m n dn) = decide (0 < mdS m' n dn) := by
  rw [md_sign dn (fan_md hf h1 h2), md_sign dn (fan_md hf h3 h4)]
theorem fan_all {w : World} {A : Option Addr} {c K : Nat} {n lo : Int} {dn : Bool} (h : KAt w A c 3 (fanL n lo dn K)) (hK : 0 < K) :
    ∃ b off, A = some ⟨b, off, none⟩ ∧ b < w.heap.size ∧ ∀ k : Nat, k < K → w.cell? ⟨b, off + k * 3, none⟩ = some (.int .i64 (mdC (lo + k) n)) ∧ w.cell? ⟨b, off + k * 3 + 1, none⟩ = some (.int .i64 (mdS (lo + k) n dn)) ∧ w.cell? ⟨b, off + k * 3 + 2, none⟩ = some (.int .i64 (mdH (lo + k) n)) := by
  obtain ⟨b, off, rfl, hb, -⟩ := fan_cells h hK
  refine ⟨b, off, rfl, hb, fun k hk => ?_⟩
  obtain ⟨b', off', e, -, q⟩ := fan_cells h hk
  simp only [Option.some.injEq, Addr.mk.injEq, and_true] at e
  obtain ⟨rfl, rfl⟩ := e
  exact q
/-- the cells (in memory) of what is known of a cell of a fan -/
def cellE (x y : Rs) (s : Bool) (lo hi : Int) : List Value := [.int .i64 x.k, .bool x.d, .int .i64 x.lo, .int .i64 x.hi, .int .i64 y.k, .bool y.d, .int .i64 y.lo, .int .i64 y.hi, .bool s, .int .i64 lo, .int .i64 hi]
def fcE (ds ss : List Int) (src n lo : Int) (dn : Bool) (st i : Nat) : List Value :=
  cellE (rwAt ds ss src (mdC (lo + (i : Int)) n) (mdS (lo + (i : Int)) n dn) (mdH (lo + (i : Int)) n) st) (rwAt ds ss src (mdC (lo + ((i : Int) + 1)) n) (mdS (lo + ((i : Int) + 1)) n dn) (mdH (lo + ((i : Int) + 1)) n) st) (sameN ds ss src (mdC (lo + (i : Int)) n) (mdS (lo + (i : Int)) n dn) (mdH (lo + (i : Int)) n) (mdC (lo + ((i : Int) + 1)) n) (mdS (lo + ((i : Int) + 1)) n dn) (mdH (lo + ((i : Int) + 1)) n) st) (clLo ds ss src (mdC (lo + (i : Int)) n) (mdS (lo + (i : Int)) n dn) (mdH (lo + (i : Int)) n) (mdC (lo + ((i : Int) + 1)) n) (mdS (lo + ((i : Int) + 1)) n dn) (mdH (lo + ((i : Int) + 1)) n) st) (clHi ds ss src (mdC (lo + (i : Int)) n) (mdS (lo + (i : Int)) n dn) (mdH (lo + (i : Int)) n) (mdC (lo + ((i : Int) + 1)) n) (mdS (lo + ((i : Int) + 1)) n dn) (mdH (lo + ((i : Int) + 1)) n) st)
def fcL (ds ss : List Int) (src n lo : Int) (dn : Bool) (st k : Nat) : List (List Value) := (List.range k).map fun i => fcE ds ss src n lo dn st i
theorem fcL_len (ds ss : List Int) (src n lo : Int) (dn : Bool) (st k : Nat) : (fcL ds ss src n lo dn st k).length = k := by rw [fcL, List.length_map, List.length_range]
theorem fcL_next (ds ss : List Int) (src n lo : Int) (dn : Bool) (st k : Nat) : fcL ds ss src n lo dn st (k + 1) = fcL ds ss src n lo dn st k ++ [fcE ds ss src n lo dn st k] := by rw [fcL, List.range_succ, List.map_append]; rfl
theorem fcL_11 (ds ss : List Int) (src n lo : Int) (dn : Bool) (st k : Nat) : ∀ x ∈ fcL ds ss src n lo dn st k, x.length = 11 := fun x h => by
  obtain ⟨i, -, rfl⟩ := List.mem_map.1 h; rfl
theorem infoCell : (Tryz.prog.info? 66).map (fun i => (i.zero, i.size, i.bytes)) = some (some (.agg #[.int .i64 0, .bool false, .int .i64 0, .int .i64 0, .int .i64 0, .bool false, .int .i64 0, .int .i64 0, .bool false, .int .i64 0, .int .i64 0]), 11, 88) := by kernel_rfl
/-- the code of a fan's arguments -/
@[irreducible] def faE (ds ss : List Int) (src n lo hi st : Int) : Int := if profB ds ss && fanB n lo hi then (if inB src 0 ((ds.length : Int) - 1) && inB st 0 100 then 0 else 2) else 1
theorem fa_zero {ds ss : List Int} {src n lo hi st : Int} (h : faE ds ss src n lo hi st = 0) : profB ds ss = true ∧ fanB n lo hi = true ∧ 0 ≤ src ∧ src ≤ (ds.length : Int) - 1 ∧ ∃ m : Nat, st = m ∧ m ≤ 100 := by
  unfold faE at h
  cases h1 : profB ds ss <;> cases h2 : fanB n lo hi <;> cases h4 : inB src 0 ((ds.length : Int) - 1) <;> cases h5 : inB st 0 100 <;> simp [h1, h2, h4, h5] at h
  have a := inB_bd h4
  have b := inB_bd h5
  exact ⟨rfl, rfl, a.1, a.2, st.toNat, by omega, by omega⟩
theorem fa_three (ds ss : List Int) (src n lo hi st : Int) : faE ds ss src n lo hi st = 0 ∨ faE ds ss src n lo hi st = 1 ∨ faE ds ss src n lo hi st = 2 := by
  unfold faE; repeat' split
  all_goals omega
theorem fa_l8 {ds ss : List Int} {src n lo hi st : Int} (dn : Bool) (hp : profB ds ss = true) (hf : fanB n lo hi = true) : l8E ds ss src (mdC (lo + (0 : Nat)) n) (mdS (lo + (0 : Nat)) n dn) (mdH (lo + (0 : Nat)) n) (mdC (lo + (0 : Nat)) n) (mdS (lo + (0 : Nat)) n dn) (mdH (lo + (0 : Nat)) n) st = faE ds ss src n lo hi st := by
  have k := fan_ok hf
  have hd := md_dir dn (fan_md hf (m := lo + (0 : Nat)) (by omega) (by have := k.l1; omega))
  have ha : alB (mdS (lo + (0 : Nat)) n dn) (mdS (lo + (0 : Nat)) n dn) = true := by unfold alB; exact beq_self_eq_true _
  unfold l8E ceE faE
  rw [hp, hd, hf, ha]
  simp
set_option maxHeartbeats 4000000 in
theorem fanCode_any (A1 A2 : Option Addr) (c1 c2 : Nat) (ds ss : List Int) (src n lo hi st : Int) (w : World) (h : ProfAt w A1 c1 A2 c2 ds ss) :
    Calls Tryz.prog 17 #[profV A1 ds.length c1 A2 ss.length c2, .int .i64 src, .int .i64 n, .int .i64 lo, .int .i64 hi, .int .i64 st] w fun e w' => e = .returned (.int .i64 (faE ds ss src n lo hi st)) ∧ Below w.heap.size w w' := by
  have hn := Nat.le_trans h.1.1 h.1.2.1
  have H := Lib.hid h; clear h
  rcases Bool.eq_false_or_eq_true (profB ds ss) with hp | hp
  rotate_left
  · have HE : Hid (faE ds ss src n lo hi st = 1) := by show _ = _; simp [faE, hp]
    go_enter Tryz.func17, Tryz.ntmps17
    go_wp2_with (first
      | (go_at_call 39; refine (implIsProfile_any _ _ _ _ _ _ _ (H.out.1.below (B := w.heap.size) (by first | exact Below.refl _ _ | (go_grown; done) | exact bdrewN (by go_grown) _) (Nat.le_refl _)) (H.out.2.below (B := w.heap.size) (by first | exact Below.refl _ _ | (go_grown; done) | exact bdrewN (by go_grown) _) (Nat.le_refl _))).mono ?_; rintro e w1 ⟨rfl, hb1⟩; obtain ⟨B1, hz1, q1, s1, t1, x1, y1, z1⟩ := bkeep (w := w) [w.heap.size] (by first | (simp; done) | (simp; omega)) (by first | (go_grown; done) | exact bdrewN (by go_grown) _) hb1; (try simp at hz1); clear hb1)
      | (go_at_call 40; refine (implIsFan_any _ _ _ _).mono ?_; rintro e w2 ⟨rfl, hb2⟩; obtain ⟨B2, hz2, q2, s2, t2, x2, y2, z2⟩ := bkeep (w := w) [w.heap.size] (by first | (simp; done) | (simp; omega)) (by first | (go_grown; done) | exact bdrewN (by go_grown) _) hb2; (try simp at hz2); clear hb2)
      | (go_at_call 41; refine (isKnot_any _ _ _ _ _ _ _ _ hn).mono ?_; rintro e w3 ⟨rfl, hb3⟩; obtain ⟨B3, hz3, q3, s3, t3, x3, y3, z3⟩ := bkeep (w := w) [w.heap.size] (by first | (simp; done) | (simp; omega)) (by first | (go_grown; done) | exact bdrewN (by go_grown) _) hb3; (try simp at hz3); clear hb3)
      | (go_at_call 25; refine (within_any _ _ _ _).mono ?_; rintro e w' ⟨rfl, rfl⟩))
    all_goals go_ret
    all_goals exact ⟨ret_int HE.out.symm, by first | exact (by first | with_reducible exact B3 | (go_grown; done) | with_reducible exact bdrewN B3 _ | (go_grown <;> first | with_reducible exact bdrewN B3 _ | with_reducible exact B3)) | exact (by first | with_reducible exact B2 | (go_grown; done) | with_reducible exact bdrewN B2 _ | (go_grown <;> first | with_reducible exact bdrewN B2 _ | with_reducible exact B2)) | exact (by first | with_reducible exact B1 | (go_grown; done) | with_reducible exact bdrewN B1 _ | (go_grown <;> first | with_reducible exact bdrewN B1 _ | with_reducible exact B1))⟩
  rcases Bool.eq_false_or_eq_true (fanB n lo hi) with hf | hf
  rotate_left
  · have HE : Hid (faE ds ss src n lo hi st = 1) := by show _ = _; simp [faE, hp, hf]
    go_enter Tryz.func17, Tryz.ntmps17
    go_wp2_with (first
      | (go_at_call 39; refine (implIsProfile_any _ _ _ _ _ _ _ (H.out.1.below (B := w.heap.size) (by first | exact Below.refl _ _ | (go_grown; done) | exact bdrewN (by go_grown) _) (Nat.le_refl _)) (H.out.2.below (B := w.heap.size) (by first | exact Below.refl _ _ | (go_grown; done) | exact bdrewN (by go_grown) _) (Nat.le_refl _))).mono ?_; rintro e w1 ⟨rfl, hb1⟩; obtain ⟨B1, hz1, q1, s1, t1, x1, y1, z1⟩ := bkeep (w := w) [w.heap.size] (by first | (simp; done) | (simp; omega)) (by first | (go_grown; done) | exact bdrewN (by go_grown) _) hb1; (try simp at hz1); clear hb1)
      | (go_at_call 40; refine (implIsFan_any _ _ _ _).mono ?_; rintro e w2 ⟨rfl, hb2⟩; obtain ⟨B2, hz2, q2, s2, t2, x2, y2, z2⟩ := bkeep (w := w) [w.heap.size] (by first | (simp; done) | (simp; omega)) (by first | (go_grown; done) | exact bdrewN (by go_grown) _) hb2; (try simp at hz2); clear hb2)
      | (go_at_call 41; refine (isKnot_any _ _ _ _ _ _ _ _ hn).mono ?_; rintro e w3 ⟨rfl, hb3⟩; obtain ⟨B3, hz3, q3, s3, t3, x3, y3, z3⟩ := bkeep (w := w) [w.heap.size] (by first | (simp; done) | (simp; omega)) (by first | (go_grown; done) | exact bdrewN (by go_grown) _) hb3; (try simp at hz3); clear hb3)
      | (go_at_call 25; refine (within_any _ _ _ _).mono ?_; rintro e w' ⟨rfl, rfl⟩))
    all_goals go_ret
    all_goals exact ⟨ret_int HE.out.symm, by first | exact (by first | with_reducible exact B3 | (go_grown; done) | with_reducible exact bdrewN B3 _ | (go_grown <;> first | with_reducible exact bdrewN B3 _ | with_reducible exact B3)) | exact (by first | with_reducible exact B2 | (go_grown; done) | with_reducible exact bdrewN B2 _ | (go_grown <;> first | with_reducible exact bdrewN B2 _ | with_reducible exact B2)) | exact (by first | with_reducible exact B1 | (go_grown; done) | with_reducible exact bdrewN B1 _ | (go_grown <;> first | with_reducible exact bdrewN B1 _ | with_reducible exact B1))⟩
  rcases Bool.eq_false_or_eq_true (inB src 0 ((ds.length : Int) - 1)) with hk | hk
  rotate_left
  · have HE : Hid (faE ds ss src n lo hi st = 2) := by show _ = _; simp [faE, hp, hf, hk]
    go_enter Tryz.func17, Tryz.ntmps17
    go_wp2_with (first
      | (go_at_call 39; refine (implIsProfile_any _ _ _ _ _ _ _ (H.out.1.below (B := w.heap.size) (by first | exact Below.refl _ _ | (go_grown; done) | exact bdrewN (by go_grown) _) (Nat.le_refl _)) (H.out.2.below (B := w.heap.size) (by first | exact Below.refl _ _ | (go_grown; done) | exact bdrewN (by go_grown) _) (Nat.le_refl _))).mono ?_; rintro e w1 ⟨rfl, hb1⟩; obtain ⟨B1, hz1, q1, s1, t1, x1, y1, z1⟩ := bkeep (w := w) [w.heap.size] (by first | (simp; done) | (simp; omega)) (by first | (go_grown; done) | exact bdrewN (by go_grown) _) hb1; (try simp at hz1); clear hb1)
      | (go_at_call 40; refine (implIsFan_any _ _ _ _).mono ?_; rintro e w2 ⟨rfl, hb2⟩; obtain ⟨B2, hz2, q2, s2, t2, x2, y2, z2⟩ := bkeep (w := w) [w.heap.size] (by first | (simp; done) | (simp; omega)) (by first | (go_grown; done) | exact bdrewN (by go_grown) _) hb2; (try simp at hz2); clear hb2)
      | (go_at_call 41; refine (isKnot_any _ _ _ _ _ _ _ _ hn).mono ?_; rintro e w3 ⟨rfl, hb3⟩; obtain ⟨B3, hz3, q3, s3, t3, x3, y3, z3⟩ := bkeep (w := w) [w.heap.size] (by first | (simp; done) | (simp; omega)) (by first | (go_grown; done) | exact bdrewN (by go_grown) _) hb3; (try simp at hz3); clear hb3)
      | (go_at_call 25; refine (within_any _ _ _ _).mono ?_; rintro e w' ⟨rfl, rfl⟩))
    all_goals go_ret
    all_goals exact ⟨ret_int HE.out.symm, by first | exact (by first | with_reducible exact B3 | (go_grown; done) | with_reducible exact bdrewN B3 _ | (go_grown <;> first | with_reducible exact bdrewN B3 _ | with_reducible exact B3)) | exact (by first | with_reducible exact B2 | (go_grown; done) | with_reducible exact bdrewN B2 _ | (go_grown <;> first | with_reducible exact bdrewN B2 _ | with_reducible exact B2)) | exact (by first | with_reducible exact B1 | (go_grown; done) | with_reducible exact bdrewN B1 _ | (go_grown <;> first | with_reducible exact bdrewN B1 _ | with_reducible exact B1))⟩
  rcases Bool.eq_false_or_eq_true (inB st 0 100) with hm | hm
  rotate_left
  · have HE : Hid (faE ds ss src n lo hi st = 2) := by show _ = _; simp [faE, hp, hf, hk, hm]
    go_enter Tryz.func17, Tryz.ntmps17
    go_wp2_with (first
      | (go_at_call 39; refine (implIsProfile_any _ _ _ _ _ _ _ (H.out.1.below (B := w.heap.size) (by first | exact Below.refl _ _ | (go_grown; done) | exact bdrewN (by go_grown) _) (Nat.le_refl _)) (H.out.2.below (B := w.heap.size) (by first | exact Below.refl _ _ | (go_grown; done) | exact bdrewN (by go_grown) _) (Nat.le_refl _))).mono ?_; rintro e w1 ⟨rfl, hb1⟩; obtain ⟨B1, hz1, q1, s1, t1, x1, y1, z1⟩ := bkeep (w := w) [w.heap.size] (by first | (simp; done) | (simp; omega)) (by first | (go_grown; done) | exact bdrewN (by go_grown) _) hb1; (try simp at hz1); clear hb1)
      | (go_at_call 40; refine (implIsFan_any _ _ _ _).mono ?_; rintro e w2 ⟨rfl, hb2⟩; obtain ⟨B2, hz2, q2, s2, t2, x2, y2, z2⟩ := bkeep (w := w) [w.heap.size] (by first | (simp; done) | (simp; omega)) (by first | (go_grown; done) | exact bdrewN (by go_grown) _) hb2; (try simp at hz2); clear hb2)
      | (go_at_call 41; refine (isKnot_any _ _ _ _ _ _ _ _ hn).mono ?_; rintro e w3 ⟨rfl, hb3⟩; obtain ⟨B3, hz3, q3, s3, t3, x3, y3, z3⟩ := bkeep (w := w) [w.heap.size] (by first | (simp; done) | (simp; omega)) (by first | (go_grown; done) | exact bdrewN (by go_grown) _) hb3; (try simp at hz3); clear hb3)
      | (go_at_call 25; refine (within_any _ _ _ _).mono ?_; rintro e w' ⟨rfl, rfl⟩))
    all_goals go_ret
    all_goals exact ⟨ret_int HE.out.symm, by first | exact (by first | with_reducible exact B3 | (go_grown; done) | with_reducible exact bdrewN B3 _ | (go_grown <;> first | with_reducible exact bdrewN B3 _ | with_reducible exact B3)) | exact (by first | with_reducible exact B2 | (go_grown; done) | with_reducible exact bdrewN B2 _ | (go_grown <;> first | with_reducible exact bdrewN B2 _ | with_reducible exact B2)) | exact (by first | with_reducible exact B1 | (go_grown; done) | with_reducible exact bdrewN B1 _ | (go_grown <;> first | with_reducible exact bdrewN B1 _ | with_reducible exact B1))⟩
  have HE : Hid (faE ds ss src n lo hi st = 0) := by show _ = _; simp [faE, hp, hf, hk, hm]
  go_enter Tryz.func17, Tryz.ntmps17
  go_wp2_with (first
      | (go_at_call 39; refine (implIsProfile_any _ _ _ _ _ _ _ (H.out.1.below (B := w.heap.size) (by first | exact Below.refl _ _ | (go_grown; done) | exact bdrewN (by go_grown) _) (Nat.le_refl _)) (H.out.2.below (B := w.heap.size) (by first | exact Below.refl _ _ | (go_grown; done) | exact bdrewN (by go_grown) _) (Nat.le_refl _))).mono ?_; rintro e w1 ⟨rfl, hb1⟩; obtain ⟨B1, hz1, q1, s1, t1, x1, y1, z1⟩ := bkeep (w := w) [w.heap.size] (by first | (simp; done) | (simp; omega)) (by first | (go_grown; done) | exact bdrewN (by go_grown) _) hb1; (try simp at hz1); clear hb1)
      | (go_at_call 40; refine (implIsFan_any _ _ _ _).mono ?_; rintro e w2 ⟨rfl, hb2⟩; obtain ⟨B2, hz2, q2, s2, t2, x2, y2, z2⟩ := bkeep (w := w) [w.heap.size] (by first | (simp; done) | (simp; omega)) (by first | (go_grown; done) | exact bdrewN (by go_grown) _) hb2; (try simp at hz2); clear hb2)
      | (go_at_call 41; refine (isKnot_any _ _ _ _ _ _ _ _ hn).mono ?_; rintro e w3 ⟨rfl, hb3⟩; obtain ⟨B3, hz3, q3, s3, t3, x3, y3, z3⟩ := bkeep (w := w) [w.heap.size] (by first | (simp; done) | (simp; omega)) (by first | (go_grown; done) | exact bdrewN (by go_grown) _) hb3; (try simp at hz3); clear hb3)
      | (go_at_call 25; refine (within_any _ _ _ _).mono ?_; rintro e w' ⟨rfl, rfl⟩))
  all_goals go_ret
  all_goals exact ⟨ret_int HE.out.symm, by first | exact (by first | with_reducible exact B3 | (go_grown; done) | with_reducible exact bdrewN B3 _ | (go_grown <;> first | with_reducible exact bdrewN B3 _ | with_reducible exact B3)) | exact (by first | with_reducible exact B2 | (go_grown; done) | with_reducible exact bdrewN B2 _ | (go_grown <;> first | with_reducible exact bdrewN B2 _ | with_reducible exact B2)) | exact (by first | with_reducible exact B1 | (go_grown; done) | with_reducible exact bdrewN B1 _ | (go_grown <;> first | with_reducible exact bdrewN B1 _ | with_reducible exact B1))⟩
theorem bcell {W w1 : World} (hb : Below W.heap.size W w1) : (∀ b o, b < W.heap.size → w1.cell? ⟨b, o, none⟩ = W.cell? ⟨b, o, none⟩) ∧ (∀ b o, b < W.heap.size → w1.frozen? ⟨b, o, none⟩ = W.frozen? ⟨b, o, none⟩) :=
  ⟨fun b o h => hb.cell (p := ⟨b, o, none⟩) h, fun b o h => hb.frozen (p := ⟨b, o, none⟩) h⟩
set_option maxRecDepth 4000 in
set_option maxHeartbeats 8000000 in
theorem l08Cells_ok (A1 A2 : Option Addr) (c1 c2 : Nat) (ds ss : List Int) (src n lo hi : Int) (dn : Bool) (st K : Nat) (w : World) (h : ProfAt w A1 c1 A2 c2 ds ss) (hp : profB ds ss = true) (hf : fanB n lo hi = true) (u0 : 0 ≤ src) (u1 : src ≤ (ds.length : Int) - 1) (hst : st ≤ 100) (hK1 : hi ≤ lo + K) (hK2 : lo + K ≤ hi) :
    Calls Tryz.prog 22 #[profV A1 ds.length c1 A2 ss.length c2, .int .i64 src, .int .i64 n, .int .i64 lo, .int .i64 hi, .bool dn, .int .i64 st] w fun e w' =>
      (∃ A' c', e = .returned (.tuple #[.slice A' K c', .int .i64 0]) ∧ ResK w' w.heap.size w'.heap.size A' c' 11 (fcL ds ss src n lo dn st K)) ∧ Below w.heap.size w w' := by
  obtain ⟨f1, f2, f3, f4, f5⟩ := fan_ok hf
  obtain ⟨M, hM1, hM2⟩ : ∃ M : Nat, M ≤ K + 1 ∧ K + 1 ≤ M := ⟨K + 1, Nat.le_refl _, Nat.le_refl _⟩
  have r0 := fan_ray (m := lo) dn hp hf u0 u1 (by omega) (by omega)
  have l0 := r0.l0; have l1 := r0.l1; clear r0
  have hz : faE ds ss src n lo hi st = 0 := by
    unfold faE
    have a : inB src 0 ((ds.length : Int) - 1) = true := by simp [inB]; omega
    have b : inB (st : Int) 0 100 = true := by simp [inB]; omega
    rw [hp, hf, a, b]; rfl
  have L8 := Lib.hid (show ∀ w, ProfAt w A1 c1 A2 c2 ds ss → Calls Tryz.prog 51 #[profV A1 ds.length c1 A2 ss.length c2, .int .i64 src, dirV (mdC (lo + (0 : Nat)) n) (mdS (lo + (0 : Nat)) n dn) (mdH (lo + (0 : Nat)) n), dirV (mdC (lo + (0 : Nat)) n) (mdS (lo + (0 : Nat)) n dn) (mdH (lo + (0 : Nat)) n), .int .i64 (st : Int)] w fun e w' => e = .returned (.int .i64 0) ∧ Below w.heap.size w w' from fun w h => by
    have q := l08Code_any A1 A2 c1 c2 ds ss src (mdC (lo + (0 : Nat)) n) (mdS (lo + (0 : Nat)) n dn) (mdH (lo + (0 : Nat)) n) (mdC (lo + (0 : Nat)) n) (mdS (lo + (0 : Nat)) n dn) (mdH (lo + (0 : Nat)) n) st w h
    rw [fa_l8 dn hp hf, hz] at q; exact q)
  have PI := Lib.hid (show ∀ w, ProfAt w A1 c1 A2 c2 ds ss → Calls Tryz.prog 48 #[profV A1 ds.length c1 A2 ss.length c2] w fun e w' => e = .returned (.bool true) ∧ Below w.heap.size w w' from fun w h => by have q := specIsProfile_any A1 A2 c1 c2 ds ss w h.1 h.2; rw [hp] at q; exact q)
  have FI := Lib.hid (show ∀ w, Calls Tryz.prog 49 #[.int .i64 n, .int .i64 lo, .int .i64 hi] w fun e w' => e = .returned (.bool true) ∧ Below w.heap.size w w' from fun w => by have q := specIsFan_any n lo hi w; rw [hf] at q; exact q)
  have H := Lib.hid h; have hp_ := Lib.hid hp; have hf_ := Lib.hid hf; clear h hz hp hf; have hp := Lib.hid hp_.out; have hf := Lib.hid hf_.out; clear hp_ hf_
  go_enter Tryz.func22, Tryz.ntmps22
  go_upto_region 3 with (first
    | (go_at_call 48; refine (PI.out _ (H.out.below (B := w.heap.size) (by first | exact Below.refl _ _ | (go_grown; done) | exact bdrewN (by go_grown) _) (Nat.le_refl _))).mono ?_; rintro e w1 ⟨rfl, hb1⟩; obtain ⟨B1, hz1, q1, s1, t1, x1, y1, z1⟩ := bkeep (w := w) [w.heap.size] (by first | (simp; done) | (simp; omega)) (by first | (go_grown; done) | exact bdrewN (by go_grown) _) hb1; (try simp at hz1); clear hb1)
    | (go_at_call 49; refine (FI.out _).mono ?_; rintro e w2 ⟨rfl, hb2⟩; obtain ⟨B2, hz2, q2, s2, t2, x2, y2, z2⟩ := bkeep (w := w) [w.heap.size] (by first | (simp; done) | (simp; omega)) (by first | (go_grown; done) | exact bdrewN (by go_grown) _) hb2; (try simp at hz2); clear hb2))
  go_upto_region 4 with (go_at_call 50; refine (l08Fan_any n lo hi dn M _ hf.out (by omega) (by omega)).mono ?_; rintro e w3 ⟨⟨Af, cf, rfl, RF⟩, hb3⟩; have VF := Lib.hid RF.at; clear RF; obtain ⟨B3, hz3, q3, s3, t3, x3, y3, z3⟩ := bkeep (w := w) [w.heap.size] (by first | (simp; done) | (simp; omega)) (by first | (go_grown; done) | exact bdrewN (by go_grown) _) hb3; (try simp at hz3); clear hb3)
  refine genS (S := fun w' => Below (w.heap.size) w w' ∧ w.heap.size < w'.heap.size ∧ w'.cell? ⟨w.heap.size, 0, none⟩ = some (.slice A1 ds.length c1) ∧ w'.cell? ⟨w.heap.size, 1, none⟩ = some (.slice A2 ss.length c2) ∧ KAt w' Af cf 3 (fanL n lo dn M)) ⟨(by first | exact B3 | (go_grown; done) | exact bdrewN B3 _), by first | omega | (simp; done) | (simp; omega), by simp [*, go_sem], by simp [*, go_sem], VF.out.below (B := w3.heap.size) (by first | exact Below.refl _ _ | (go_grown; done) | exact bdrewN (by go_grown) _) (Nat.le_refl _)⟩ ?_
  clear q3 s3 t3 x3 y3 z3 hz3 VF
  rintro w4 ⟨B4, lt4_0, c4_0, c4_1, GF⟩
  have z4 : w.heap.size ≤ w4.heap.size := B4.size
  have HP := Lib.hid (H.out.below B4 (Nat.le_refl _)); have HB4 := Lib.hid B4; clear B4
  obtain ⟨bf, of, rfl, hbf, fa⟩ := fan_all GF (by omega)
  have FA := Lib.hid fa; clear fa GF
  obtain ⟨a0, a1, a2⟩ := FA.out 0 (by omega)
  rw [Nat.zero_mul, Nat.add_zero] at a0 a1 a2
  have gK : (0 : Int) < (M : Int) := by omega
  have gKn : 0 < M := by omega
  generalize mdC (lo + ((0 : Nat) : Int)) n = c0 at *
  generalize mdS (lo + ((0 : Nat) : Int)) n dn = s0_ at *
  generalize mdH (lo + ((0 : Nat) : Int)) n = h0 at *
  go_region_held3 (fun w' => w'.cell? ⟨w.heap.size, 0, none⟩ = some (.slice A1 ds.length c1) ∧ w'.cell? ⟨w.heap.size, 1, none⟩ = some (.slice A2 ss.length c2) ∧ w'.cell? ⟨bf, of, none⟩ = some (.int .i64 c0) ∧ w'.cell? ⟨bf, of + 1, none⟩ = some (.int .i64 s0_) ∧ w'.cell? ⟨bf, of + 2, none⟩ = some (.int .i64 h0)) (first | (go_keep; done) | (simp [*, go_sem]; done))
    (first
      | (go_at_call 51; refine (L8.out _ (HP.out.below (B := w4.heap.size) (by first | exact Below.refl _ _ | (go_grown; done) | exact bdrewN (by go_grown) _) (Nat.le_refl _))).mono ?_; rintro e w5 ⟨rfl, hb5⟩; obtain ⟨hc5, hf5⟩ := bcell hb5; have hz5 := hb5.size; (try simp only [World.size_alloc, World.size_drew, size_set] at hz5); (try simp only [World.size_alloc, World.size_drew, size_set] at hc5); (try simp only [World.size_alloc, World.size_drew, size_set] at hf5); (try have ly5_0 : w.heap.size < w5.heap.size := (by omega)); (try have lx5_0 : w.heap.size ≤ w5.heap.size := (by omega)); (try have ly5_1 : bf < w5.heap.size := (by omega)); (try have lx5_1 : bf ≤ w5.heap.size := (by omega)); have BB := Lib.hid ((show Below w4.heap.size w4 _ from (by first | exact Below.refl _ _ | (go_grown; done) | exact bdrewN (by go_grown) _)).trans (hb5.mono (by first | omega | (simp; done) | (simp; omega)))); clear hb5))
  go_upto_region 8 with fail
  refine genS (S := fun w' => Below w4.heap.size w4 w' ∧ OwnK w' w4.heap.size 66 11 (.slice (some ⟨w5.heap.size, 0, none⟩) 0 0) []) ⟨by have hb_ := BB.out; first | with_reducible exact hb_ | (go_grown; done) | exact bdrewN (by go_grown) _, OwnK.zero (by first | omega | (have := BB.out.size; omega) | (have := BB.out.size; simp at *; omega))⟩ ?_
  rintro w6 ⟨B6, O6⟩
  clear a0 a1 a2 hc5 hf5
  have HB6 := Lib.hid B6; have HO6 := Lib.hid O6; clear B6 O6
  go_wp2
  go_loopw [18, 19] (fun v i wr => Below w4.heap.size w4 wr ∧ ∃ k : Nat, k ≤ K ∧ i = .int .i64 k ∧ OwnK wr w4.heap.size 66 11 v (fcL ds ss src n lo dn st k)) (fun _ i _ => K - (intOf i).toNat)
  case atStart => exact ⟨HB6.out, 0, by omega, rfl, HO6.out⟩
  case round =>
    obtain ⟨Br, k, hk, rfl, A', c', rfl, hc', hown, hall⟩ := hrel
    simp only [fcL_len] at hown ⊢
    have HO := Lib.hid hown; have HA := Lib.hid hall; clear hown hall
    have sr := Br.size
    have HBr := Lib.hid Br
    have r0 := (bAt Br (b := w.heap.size) (o := 0) (by omega)).trans c4_0
    have r1 := (bAt Br (b := w.heap.size) (o := 1) (by omega)).trans c4_1
    have HR := Lib.hid (HP.out.below Br (Nat.le_refl _))
    by_cases hlt : k < K
    · have ra := fan_ray (m := lo + (k : Int)) dn hp.out hf.out u0 u1 (by omega) (by omega)
      have rb := fan_ray (m := lo + ((k : Int) + 1)) dn hp.out hf.out u0 u1 (by omega) (by omega)
      have hs := fan_sign (m := lo + (k : Int)) (m' := lo + ((k : Int) + 1)) dn hf.out (by omega) (by omega) (by omega) (by omega)
      obtain ⟨a0, a1, a2⟩ := FA.out k (by omega)
      obtain ⟨a3, a4, a5⟩ := FA.out (k + 1) (by omega)
      have ek : ((k + 1 : Nat) : Int) = (k : Int) + 1 := by omega
      rw [ek] at a3 a4 a5
      have b0 := (bAt Br (b := bf) (o := of + k * 3) hbf).trans a0
      have b1 := (bAt Br (b := bf) (o := of + k * 3 + 1) hbf).trans a1
      have b2 := (bAt Br (b := bf) (o := of + k * 3 + 2) hbf).trans a2
      have b3 := (bAt Br (b := bf) (o := of + (k + 1) * 3) hbf).trans a3
      have b4 := (bAt Br (b := bf) (o := of + (k + 1) * 3 + 1) hbf).trans a4
      have b5 := (bAt Br (b := bf) (o := of + (k + 1) * 3 + 2) hbf).trans a5
      clear a0 a1 a2 a3 a4 a5 ek
      have hE : fcE ds ss src n lo dn st k = cellE (rwAt ds ss src (mdC (lo + (k : Int)) n) (mdS (lo + (k : Int)) n dn) (mdH (lo + (k : Int)) n) st) (rwAt ds ss src (mdC (lo + ((k : Int) + 1)) n) (mdS (lo + ((k : Int) + 1)) n dn) (mdH (lo + ((k : Int) + 1)) n) st) (sameN ds ss src (mdC (lo + (k : Int)) n) (mdS (lo + (k : Int)) n dn) (mdH (lo + (k : Int)) n) (mdC (lo + ((k : Int) + 1)) n) (mdS (lo + ((k : Int) + 1)) n dn) (mdH (lo + ((k : Int) + 1)) n) st) (clLo ds ss src (mdC (lo + (k : Int)) n) (mdS (lo + (k : Int)) n dn) (mdH (lo + (k : Int)) n) (mdC (lo + ((k : Int) + 1)) n) (mdS (lo + ((k : Int) + 1)) n dn) (mdH (lo + ((k : Int) + 1)) n) st) (clHi ds ss src (mdC (lo + (k : Int)) n) (mdS (lo + (k : Int)) n dn) (mdH (lo + (k : Int)) n) (mdC (lo + ((k : Int) + 1)) n) (mdS (lo + ((k : Int) + 1)) n dn) (mdH (lo + ((k : Int) + 1)) n) st) := rfl
      generalize mdC (lo + (k : Int)) n = c0 at *
      generalize mdS (lo + (k : Int)) n dn = s0_ at *
      generalize mdH (lo + (k : Int)) n = h0 at *
      generalize mdC (lo + ((k : Int) + 1)) n = c9 at *
      generalize mdS (lo + ((k : Int) + 1)) n dn = s9 at *
      generalize mdH (lo + ((k : Int) + 1)) n = h9 at *
      obtain ⟨xk, xd, xl, xh, hx⟩ := rs_cell (rwAt ds ss src c0 s0_ h0 st)
      obtain ⟨yk, yd, yl, yh, hy_⟩ := rs_cell (rwAt ds ss src c9 s9 h9 st)
      obtain ⟨sm, hsm⟩ : ∃ x, sameN ds ss src c0 s0_ h0 c9 s9 h9 st = x := ⟨_, rfl⟩
      obtain ⟨sl, hsl⟩ : ∃ x, clLo ds ss src c0 s0_ h0 c9 s9 h9 st = x := ⟨_, rfl⟩
      obtain ⟨sh, hsh⟩ : ∃ x, clHi ds ss src c0 s0_ h0 c9 s9 h9 st = x := ⟨_, rfl⟩
      rw [hx, hy_, hsm, hsl, hsh] at hE
      have LT := Lib.hid (show ∀ w, ProfAt w A1 c1 A2 c2 ds ss → Calls Tryz.prog 52 #[profV A1 ds.length c1 A2 ss.length c2, .int .i64 src, dirV c0 s0_ h0, dirV c9 s9 h9, .int .i64 (st : Int)] w fun e w' => e = .returned (.tuple #[cellV ⟨xk, xd, xl, xh⟩ ⟨yk, yd, yl, yh⟩ sm sl sh, .int .i64 0]) ∧ Below w.heap.size w w' from fun w h => by have q := l08Trace_any A1 A2 c1 c2 ds ss src c0 s0_ h0 c9 s9 h9 st w h ra rb hs hst; rw [hx, hy_, hsm, hsl, hsh] at q; exact q)
      have HE := Lib.hid hE; clear hE hx hy_ hsm hsl hsh ra rb hs Br
      have lbf : bf < wr.heap.size := by omega
      have lp : w.heap.size < wr.heap.size := by omega
      have lbf2 : bf ≤ wr.heap.size := by omega
      have lp2 : w.heap.size ≤ wr.heap.size := by omega
      have gk : (k : Int) + 1 < (M : Int) := by omega
      have gk2 : (k : Int) < (M : Int) := by omega
      have gk0 : (0 : Int) ≤ k := by omega
      have gk1 : (0 : Int) ≤ (k : Int) + 1 := by omega
      have gk3 : ((k : Int) + 1).toNat = k + 1 := by omega
      go_upto_region 11 with fail
      go_cut [20, 21] (fun p1 c1_ wx => ∃ rb1, p1 = .pointer (some ⟨rb1, 0, none⟩) ∧ c1_ = .int .i64 0 ∧ Below wr.heap.size wr wx ∧ wr.heap.size ≤ rb1 ∧ rb1 < wx.heap.size ∧ wx.cell? ⟨rb1, 0, none⟩ = some (.int .i64 xk) ∧ wx.cell? ⟨rb1, 1, none⟩ = some (.bool xd) ∧ wx.cell? ⟨rb1, 2, none⟩ = some (.int .i64 xl) ∧ wx.cell? ⟨rb1, 3, none⟩ = some (.int .i64 xh) ∧ wx.cell? ⟨rb1, 4, none⟩ = some (.int .i64 yk) ∧ wx.cell? ⟨rb1, 5, none⟩ = some (.bool yd) ∧ wx.cell? ⟨rb1, 6, none⟩ = some (.int .i64 yl) ∧ wx.cell? ⟨rb1, 7, none⟩ = some (.int .i64 yh) ∧ wx.cell? ⟨rb1, 8, none⟩ = some (.bool sm) ∧ wx.cell? ⟨rb1, 9, none⟩ = some (.int .i64 sl) ∧ wx.cell? ⟨rb1, 10, none⟩ = some (.int .i64 sh))
      case first =>
        have wk : IntKind.i64.wrap ((k : Int) + 1) = (k : Int) + 1 := IntWalk.i64_in _ (by omega)
        go_region_held3 (fun w' => w'.cell? ⟨w.heap.size, 0, none⟩ = some (.slice A1 ds.length c1) ∧ w'.cell? ⟨w.heap.size, 1, none⟩ = some (.slice A2 ss.length c2) ∧ w'.cell? ⟨bf, of + k * 3, none⟩ = some (.int .i64 c0) ∧ w'.cell? ⟨bf, of + k * 3 + 1, none⟩ = some (.int .i64 s0_) ∧ w'.cell? ⟨bf, of + k * 3 + 2, none⟩ = some (.int .i64 h0) ∧ w'.cell? ⟨bf, of + (k + 1) * 3, none⟩ = some (.int .i64 c9) ∧ w'.cell? ⟨bf, of + (k + 1) * 3 + 1, none⟩ = some (.int .i64 s9) ∧ w'.cell? ⟨bf, of + (k + 1) * 3 + 2, none⟩ = some (.int .i64 h9)) (first | (go_keep; done) | (simp [*, go_sem]; done))
          (first
            | (go_at_call 52; refine (LT.out _ (HR.out.below (B := wr.heap.size) (by first | exact Below.refl _ _ | (go_grown; done) | exact bdrewN (by go_grown) _) (Nat.le_refl _))).mono ?_; rintro e w7 ⟨rfl, hb7⟩; obtain ⟨hc7, hf7⟩ := bcell hb7; have hz7 := hb7.size; (try simp only [World.size_alloc, World.size_drew, size_set] at hz7); (try simp only [World.size_alloc, World.size_drew, size_set] at hc7); (try simp only [World.size_alloc, World.size_drew, size_set] at hf7); (try have ly7_0 : w.heap.size < w7.heap.size := (by omega)); (try have lx7_0 : w.heap.size ≤ w7.heap.size := (by omega)); (try have ly7_1 : bf < w7.heap.size := (by omega)); (try have lx7_1 : bf ≤ w7.heap.size := (by omega)); (try have lr7 : wr.heap.size < w7.heap.size := (by omega)); have BB := Lib.hid ((show Below wr.heap.size wr _ from (by first | exact Below.refl _ _ | (go_grown; done) | exact bdrewN (by go_grown) _)).trans (hb7.mono (by first | omega | (simp; done) | (simp; omega)))); clear hb7))
        all_goals go_wp2_with fail
        all_goals go_meet
        all_goals exact ⟨_, rfl, rfl, (by have hb_ := BB.out; first | with_reducible exact hb_ | (go_grown; done)), by first | omega | (simp; omega), by first | omega | (simp; done) | (simp; omega), by simp [*, go_sem], by simp [*, go_sem], by simp [*, go_sem], by simp [*, go_sem], by simp [*, go_sem], by simp [*, go_sem], by simp [*, go_sem], by simp [*, go_sem], by simp [*, go_sem], by simp [*, go_sem], by simp [*, go_sem]⟩
      case rest =>
        obtain ⟨rb1, rfl, rfl, hF⟩ := hcut
        revert hF; generalize wc = w8; rintro ⟨hb8, lo8, hi8, cc0, cc1, cc2, cc3, cc4, cc5, cc6, cc7, cc8, cc9, cc10⟩
        have K8 := Keep.of_below (lo := w4.heap.size) hb8
        have B8 := Lib.hid (HBr.out.trans (hb8.mono sr)); have sz8 : wr.heap.size ≤ w8.heap.size := hb8.size
        clear hb8 b0 b1 b2 b3 b4 b5 r0 r1
        go_wp2_with (at_builtin; refine appG rfl _ _ 60 rfl w4.heap.size 66 (.agg #[.int .i64 0, .bool false, .int .i64 0, .int .i64 0, .int .i64 0, .bool false, .int .i64 0, .int .i64 0, .bool false, .int .i64 0, .int .i64 0]) 11 88 Tryz.underlying60 infoCell rfl (by omega) (cellE ⟨xk, xd, xl, xh⟩ ⟨yk, yd, yl, yh⟩ sm sl sh) rfl (by intro u hu; simp [cellE] at hu; rcases hu with rfl | rfl | rfl | rfl | rfl | rfl | rfl | rfl | rfl | rfl | rfl <;> rfl) _ _ _ rfl _ rfl (own_keep HO.out (by repeat' (first | with_reducible exact K8 | with_reducible exact Keep.refl _ _ _ | with_reducible refine Keep.setB ?_ ?_ _ | with_reducible refine Keep.alloc ?_ ?_ _ | with_reducible refine Keep.drew ?_ | omega | (simp; done) | (simp; omega)))) ?_ ?_ ?_ ?_ ?_; (focus (intro j u hj; match j, hj with | 0, hj => (simp [cellE] at hj; subst hj; simp [*, go_sem]) | 1, hj => (simp [cellE] at hj; subst hj; simp [*, go_sem]) | 2, hj => (simp [cellE] at hj; subst hj; simp [*, go_sem]) | 3, hj => (simp [cellE] at hj; subst hj; simp [*, go_sem]) | 4, hj => (simp [cellE] at hj; subst hj; simp [*, go_sem]) | 5, hj => (simp [cellE] at hj; subst hj; simp [*, go_sem]) | 6, hj => (simp [cellE] at hj; subst hj; simp [*, go_sem]) | 7, hj => (simp [cellE] at hj; subst hj; simp [*, go_sem]) | 8, hj => (simp [cellE] at hj; subst hj; simp [*, go_sem]) | 9, hj => (simp [cellE] at hj; subst hj; simp [*, go_sem]) | 10, hj => (simp [cellE] at hj; subst hj; simp [*, go_sem]) | j + 11, hj => simp [cellE] at hj)); (focus (unfold maxLen; omega)); (focus omega); (focus (first | omega | (simp; omega))); intro v9 w9 hown9 hg9 _; have C9 := Below.grow (B := w4.heap.size) (w0 := w4) (by have hb_ := B8.out; first | with_reducible exact hb_ | (go_grown; done)) hg9 (fun b hb => by have := HO.out.lt b hb; omega) (by first | omega | (simp; omega)); clear hg9; obtain ⟨A14, c14, rfl, hc14⟩ := owns_form hown9; have O9 := Lib.hid hown9; clear hown9)
        go_roundw
        case rel => exact ⟨C9, k + 1, by omega, by first | done | go_num | rfl, OwnK.next (els := fcL ds ss src n lo dn st k) ((fcL_next _ _ _ _ _ _ _ _).trans (by rw [HE.out])) (by rw [fcL_len]; exact O9.out) HA.out rfl⟩
        case measure => simp [intOf]; omega
    · obtain rfl : k = K := by omega
      have gx : ¬ ((k : Int) + 1 < (M : Int)) := by omega
      go_wp2
      go_ret2
      refine ⟨⟨A', c', rfl, ?_⟩, HB4.out.trans (HBr.out.mono (by omega))⟩
      exact ((OwnK.res (n := k) (els := fcL ds ss src n lo dn st k) ⟨A', c', by rw [fcL_len], hc', by rw [fcL_len]; exact HO.out, HA.out⟩).2).mono (by omega) (Nat.le_refl _)
set_option maxHeartbeats 4000000 in
theorem l08Cells_bad (A1 A2 : Option Addr) (c1 c2 : Nat) (ds ss : List Int) (src n lo hi : Int) (dn : Bool) (st : Int) (w : World) (h : ProfAt w A1 c1 A2 c2 ds ss) (hc : faE ds ss src n lo hi st ≠ 0) :
    Calls Tryz.prog 22 #[profV A1 ds.length c1 A2 ss.length c2, .int .i64 src, .int .i64 n, .int .i64 lo, .int .i64 hi, .bool dn, .int .i64 st] w fun e w' => e = .returned (.tuple #[.slice none 0 0, .int .i64 (faE ds ss src n lo hi st)]) ∧ Below w.heap.size w w' := by
  rcases Bool.eq_false_or_eq_true (profB ds ss) with hp | hp
  rotate_left
  · have HE : Hid (faE ds ss src n lo hi st = 1) := by show _ = _; simp [faE, hp]
    have H := Lib.hid h; clear h hc
    go_enter Tryz.func22, Tryz.ntmps22
    go_wp2_with (go_at_call 48; refine (specIsProfile_any _ _ _ _ _ _ _ (H.out.1.below (B := w.heap.size) (by first | exact Below.refl _ _ | (go_grown; done) | exact bdrewN (by go_grown) _) (Nat.le_refl _)) (H.out.2.below (B := w.heap.size) (by first | exact Below.refl _ _ | (go_grown; done) | exact bdrewN (by go_grown) _) (Nat.le_refl _))).mono ?_; rintro e w1 ⟨rfl, hb1⟩; obtain ⟨B1, hz1, q1, s1, t1, x1, y1, z1⟩ := bkeep (w := w) [w.heap.size] (by first | (simp; done) | (simp; omega)) (by first | (go_grown; done) | exact bdrewN (by go_grown) _) hb1; (try simp at hz1); clear hb1)
    go_ret2
    exact ⟨by rw [HE.out] <;> rfl, (by first | with_reducible exact B1 | (go_grown; done) | with_reducible exact bdrewN B1 _ | (go_grown <;> first | with_reducible exact bdrewN B1 _ | with_reducible exact B1))⟩
  rcases Bool.eq_false_or_eq_true (fanB n lo hi) with hf | hf
  rotate_left
  · have HE : Hid (faE ds ss src n lo hi st = 1) := by show _ = _; simp [faE, hp, hf]
    have H := Lib.hid h; clear h hc
    go_enter Tryz.func22, Tryz.ntmps22
    go_wp2_with (first
      | (go_at_call 48; refine (specIsProfile_any _ _ _ _ _ _ _ (H.out.1.below (B := w.heap.size) (by first | exact Below.refl _ _ | (go_grown; done) | exact bdrewN (by go_grown) _) (Nat.le_refl _)) (H.out.2.below (B := w.heap.size) (by first | exact Below.refl _ _ | (go_grown; done) | exact bdrewN (by go_grown) _) (Nat.le_refl _))).mono ?_; rintro e w1 ⟨rfl, hb1⟩; obtain ⟨B1, hz1, q1, s1, t1, x1, y1, z1⟩ := bkeep (w := w) [w.heap.size] (by first | (simp; done) | (simp; omega)) (by first | (go_grown; done) | exact bdrewN (by go_grown) _) hb1; (try simp at hz1); clear hb1)
      | (go_at_call 49; refine (specIsFan_any _ _ _ _).mono ?_; rintro e w2 ⟨rfl, hb2⟩; obtain ⟨B2, hz2, q2, s2, t2, x2, y2, z2⟩ := bkeep (w := w) [w.heap.size] (by first | (simp; done) | (simp; omega)) (by first | (go_grown; done) | exact bdrewN (by go_grown) _) hb2; (try simp at hz2); clear hb2))
    go_ret2
    exact ⟨by rw [HE.out] <;> rfl, (by first | with_reducible exact B2 | (go_grown; done) | with_reducible exact bdrewN B2 _ | (go_grown <;> first | with_reducible exact bdrewN B2 _ | with_reducible exact B2))⟩
  obtain ⟨f1, f2, f3, f4, f5⟩ := fan_ok hf
  obtain ⟨M, hM1, hM2⟩ : ∃ M : Nat, hi + 1 ≤ lo + M ∧ lo + M ≤ hi + 1 := ⟨(hi + 1 - lo).toNat, by omega, by omega⟩
  have hc2 : (faE ds ss src n lo hi st != 0) = true := by simpa using hc
  have L8 := Lib.hid (show ∀ w, ProfAt w A1 c1 A2 c2 ds ss → Calls Tryz.prog 51 #[profV A1 ds.length c1 A2 ss.length c2, .int .i64 src, dirV (mdC (lo + (0 : Nat)) n) (mdS (lo + (0 : Nat)) n dn) (mdH (lo + (0 : Nat)) n), dirV (mdC (lo + (0 : Nat)) n) (mdS (lo + (0 : Nat)) n dn) (mdH (lo + (0 : Nat)) n), .int .i64 st] w fun e w' => e = .returned (.int .i64 (faE ds ss src n lo hi st)) ∧ Below w.heap.size w w' from fun w h => by
    have q := l08Code_any A1 A2 c1 c2 ds ss src (mdC (lo + (0 : Nat)) n) (mdS (lo + (0 : Nat)) n dn) (mdH (lo + (0 : Nat)) n) (mdC (lo + (0 : Nat)) n) (mdS (lo + (0 : Nat)) n dn) (mdH (lo + (0 : Nat)) n) st w h
    rw [fa_l8 dn hp hf] at q; exact q)
  have PI := Lib.hid (show ∀ w, ProfAt w A1 c1 A2 c2 ds ss → Calls Tryz.prog 48 #[profV A1 ds.length c1 A2 ss.length c2] w fun e w' => e = .returned (.bool true) ∧ Below w.heap.size w w' from fun w h => by have q := specIsProfile_any A1 A2 c1 c2 ds ss w h.1 h.2; rw [hp] at q; exact q)
  have FI := Lib.hid (show ∀ w, Calls Tryz.prog 49 #[.int .i64 n, .int .i64 lo, .int .i64 hi] w fun e w' => e = .returned (.bool true) ∧ Below w.heap.size w w' from fun w => by have q := specIsFan_any n lo hi w; rw [hf] at q; exact q)
  have H := Lib.hid h; have hf_ := Lib.hid hf; clear h hc hp hf; have hf := Lib.hid hf_.out; clear hf_
  go_enter Tryz.func22, Tryz.ntmps22
  go_upto_region 3 with (first
    | (go_at_call 48; refine (PI.out _ (H.out.below (B := w.heap.size) (by first | exact Below.refl _ _ | (go_grown; done) | exact bdrewN (by go_grown) _) (Nat.le_refl _))).mono ?_; rintro e w1 ⟨rfl, hb1⟩; obtain ⟨B1, hz1, q1, s1, t1, x1, y1, z1⟩ := bkeep (w := w) [w.heap.size] (by first | (simp; done) | (simp; omega)) (by first | (go_grown; done) | exact bdrewN (by go_grown) _) hb1; (try simp at hz1); clear hb1)
    | (go_at_call 49; refine (FI.out _).mono ?_; rintro e w2 ⟨rfl, hb2⟩; obtain ⟨B2, hz2, q2, s2, t2, x2, y2, z2⟩ := bkeep (w := w) [w.heap.size] (by first | (simp; done) | (simp; omega)) (by first | (go_grown; done) | exact bdrewN (by go_grown) _) hb2; (try simp at hz2); clear hb2))
  go_upto_region 4 with (go_at_call 50; refine (l08Fan_any n lo hi dn M _ hf.out hM1 hM2).mono ?_; rintro e w3 ⟨⟨Af, cf, rfl, RF⟩, hb3⟩; have VF := Lib.hid RF.at; clear RF; obtain ⟨B3, hz3, q3, s3, t3, x3, y3, z3⟩ := bkeep (w := w) [w.heap.size] (by first | (simp; done) | (simp; omega)) (by first | (go_grown; done) | exact bdrewN (by go_grown) _) hb3; (try simp at hz3); clear hb3)
  refine genS (S := fun w' => Below (w.heap.size) w w' ∧ w.heap.size < w'.heap.size ∧ w'.cell? ⟨w.heap.size, 0, none⟩ = some (.slice A1 ds.length c1) ∧ w'.cell? ⟨w.heap.size, 1, none⟩ = some (.slice A2 ss.length c2) ∧ KAt w' Af cf 3 (fanL n lo dn M)) ⟨(by first | exact B3 | (go_grown; done) | exact bdrewN B3 _), by first | omega | (simp; done) | (simp; omega), by simp [*, go_sem], by simp [*, go_sem], VF.out.below (B := w3.heap.size) (by first | exact Below.refl _ _ | (go_grown; done) | exact bdrewN (by go_grown) _) (Nat.le_refl _)⟩ ?_
  clear q3 s3 t3 x3 y3 z3 hz3 VF
  rintro w4 ⟨B4, lt4_0, c4_0, c4_1, GF⟩
  have z4 : w.heap.size ≤ w4.heap.size := B4.size
  have HP := Lib.hid (H.out.below B4 (Nat.le_refl _)); have HB4 := Lib.hid B4; clear B4
  obtain ⟨bf, of, rfl, hbf, fa⟩ := fan_all GF (by omega)
  obtain ⟨a0, a1, a2⟩ := fa 0 (by omega)
  clear fa GF
  rw [Nat.zero_mul, Nat.add_zero] at a0 a1 a2
  have gK : (0 : Int) < (M : Int) := by omega
  have gKn : 0 < M := by omega
  generalize mdC (lo + ((0 : Nat) : Int)) n = c0 at *
  generalize mdS (lo + ((0 : Nat) : Int)) n dn = s0_ at *
  generalize mdH (lo + ((0 : Nat) : Int)) n = h0 at *
  go_region_held3 (fun w' => w'.cell? ⟨w.heap.size, 0, none⟩ = some (.slice A1 ds.length c1) ∧ w'.cell? ⟨w.heap.size, 1, none⟩ = some (.slice A2 ss.length c2) ∧ w'.cell? ⟨bf, of, none⟩ = some (.int .i64 c0) ∧ w'.cell? ⟨bf, of + 1, none⟩ = some (.int .i64 s0_) ∧ w'.cell? ⟨bf, of + 2, none⟩ = some (.int .i64 h0)) (first | (go_keep; done) | (simp [*, go_sem]; done))
    (first
      | (go_at_call 51; refine (L8.out _ (HP.out.below (B := w4.heap.size) (by first | exact Below.refl _ _ | (go_grown; done) | exact bdrewN (by go_grown) _) (Nat.le_refl _))).mono ?_; rintro e w5 ⟨rfl, hb5⟩; obtain ⟨hc5, hf5⟩ := bcell hb5; have hz5 := hb5.size; (try simp only [World.size_alloc, World.size_drew, size_set] at hz5); (try simp only [World.size_alloc, World.size_drew, size_set] at hc5); (try simp only [World.size_alloc, World.size_drew, size_set] at hf5); (try have ly5_0 : w.heap.size < w5.heap.size := (by omega)); (try have lx5_0 : w.heap.size ≤ w5.heap.size := (by omega)); (try have ly5_1 : bf < w5.heap.size := (by omega)); (try have lx5_1 : bf ≤ w5.heap.size := (by omega)); have BB := Lib.hid ((show Below w4.heap.size w4 _ from (by first | exact Below.refl _ _ | (go_grown; done) | exact bdrewN (by go_grown) _)).trans (hb5.mono (by first | omega | (simp; done) | (simp; omega)))); clear hb5))
  go_wp2
  go_ret2
  exact ⟨rfl, HB4.out.trans ((show Below w4.heap.size w4 _ by have hb_ := BB.out; first | with_reducible exact hb_ | (go_grown; done) | exact bdrewN (by go_grown) _).mono (by omega))⟩
end

section
set_option linter.unusedSimpArgs false
set_option linter.unusedVariables false
open Go.RowKit

/-- whether a knot and a distance are those of a receiver -/
@[irreducible] def rcB (len : Nat) (knot dist : Int) : Bool := inB knot 0 ((len : Int) - 1) && inB dist 0 1000000000000
@[irreducible] def cvE (ds ss : List Int) (src co si hy co' si' hy' n : Int) (knot dist : Int) : Int := if ceE ds ss src co si hy co' si' hy' n = 0 then (if rcB ds.length knot dist then (if alB si si' then 0 else 5) else 2) else ceE ds ss src co si hy co' si' hy' n
@[irreducible] def cvV (ds ss : List Int) (src co si hy co' si' hy' n : Int) (knot dist : Int) : Int := if cvE ds ss src co si hy co' si' hy' n knot dist = 0 then cvI ds ss src co si hy co' si' hy' n.toNat knot dist else 0
theorem ce_three (ds ss : List Int) (src co si hy co' si' hy' n : Int) : ceE ds ss src co si hy co' si' hy' n = 0 ∨ ceE ds ss src co si hy co' si' hy' n = 1 ∨ ceE ds ss src co si hy co' si' hy' n = 2 := by
  unfold ceE; repeat' split
  all_goals omega
theorem cve_bad {ds ss : List Int} {src co si hy co' si' hy' n : Int} (knot dist : Int) (h : ceE ds ss src co si hy co' si' hy' n ≠ 0) : cvE ds ss src co si hy co' si' hy' n knot dist = ceE ds ss src co si hy co' si' hy' n ∧ cvV ds ss src co si hy co' si' hy' n knot dist = 0 := by
  have e : cvE ds ss src co si hy co' si' hy' n knot dist = ceE ds ss src co si hy co' si' hy' n := by unfold cvE; rw [if_neg h]
  exact ⟨e, by unfold cvV; rw [e, if_neg h]⟩
theorem cve_far {ds ss : List Int} {src co si hy co' si' hy' n knot dist : Int} (h : ceE ds ss src co si hy co' si' hy' n = 0) (hr : rcB ds.length knot dist = false) : cvE ds ss src co si hy co' si' hy' n knot dist = 2 ∧ cvV ds ss src co si hy co' si' hy' n knot dist = 0 := by
  have e : cvE ds ss src co si hy co' si' hy' n knot dist = 2 := by unfold cvE; rw [if_pos h, hr]; rfl
  exact ⟨e, by unfold cvV; rw [e]; rfl⟩
theorem cve_unlike {ds ss : List Int} {src co si hy co' si' hy' n knot dist : Int} (h : ceE ds ss src co si hy co' si' hy' n = 0) (hr : rcB ds.length knot dist = true) (ha : alB si si' = false) : cvE ds ss src co si hy co' si' hy' n knot dist = 5 ∧ cvV ds ss src co si hy co' si' hy' n knot dist = 0 := by
  have e : cvE ds ss src co si hy co' si' hy' n knot dist = 5 := by unfold cvE; rw [if_pos h, hr, ha]; rfl
  exact ⟨e, by unfold cvV; rw [e]; rfl⟩
theorem cve_ok {ds ss : List Int} {src co si hy co' si' hy' : Int} {m : Nat} {knot dist : Int} (h : ceE ds ss src co si hy co' si' hy' m = 0) (hr : rcB ds.length knot dist = true) (ha : alB si si' = true) : cvE ds ss src co si hy co' si' hy' m knot dist = 0 ∧ cvV ds ss src co si hy co' si' hy' m knot dist = cvI ds ss src co si hy co' si' hy' m knot dist := by
  have e : cvE ds ss src co si hy co' si' hy' m knot dist = 0 := by unfold cvE; rw [if_pos h, hr, ha]; rfl
  exact ⟨e, by unfold cvV; rw [if_pos e, Int.toNat_natCast]⟩
set_option maxHeartbeats 1000000 in
theorem isReceiver_any (A1 A2 : Option Addr) (len n2 c1 c2 : Nat) (knot dist : Int) (w : World) (hn : len ≤ maxLen) :
    Calls Tryz.prog 18 #[profV A1 len c1 A2 n2 c2, .int .i64 knot, .int .i64 dist] w fun e w' => e = .returned (.bool (rcB len knot dist)) ∧ Below w.heap.size w w' := by
  rcases Bool.eq_false_or_eq_true (inB knot 0 ((len : Int) - 1)) with hk | hk
  · rcases Bool.eq_false_or_eq_true (inB dist 0 1000000000000) with hd | hd
    all_goals
      have HE : Hid (rcB len knot dist = inB dist 0 1000000000000) := Lib.hid (by unfold rcB; rw [hk]; rfl)
      rw [hd] at HE
      go_enter Tryz.func18, Tryz.ntmps18
      go_wp2_with (first
        | (go_at_call 41; refine (isKnot_any _ _ _ _ _ _ _ _ hn).mono ?_; rintro e w3 ⟨rfl, hb3⟩; obtain ⟨B3, hz3, q3, s3, t3, x3, y3, z3⟩ := bkeep (w := w) [w.heap.size] (by first | (simp; done) | (simp; omega)) (by first | (go_grown; done) | exact bdrewN (by go_grown) _) hb3; (try simp at hz3); clear hb3)
        | (go_at_call 25; refine (within_any _ _ _ _).mono ?_; rintro e w' ⟨rfl, rfl⟩))
      all_goals go_ret
      all_goals exact ⟨ret_bool (HE.out.symm), (by first | with_reducible exact B3 | (go_grown; done) | with_reducible exact bdrewN B3 _ | (go_grown <;> first | with_reducible exact bdrewN B3 _ | with_reducible exact B3))⟩
  · have HE : Hid (rcB len knot dist = false) := Lib.hid (by unfold rcB; rw [hk]; rfl)
    go_enter Tryz.func18, Tryz.ntmps18
    go_wp2_with (first
      | (go_at_call 41; refine (isKnot_any _ _ _ _ _ _ _ _ hn).mono ?_; rintro e w3 ⟨rfl, hb3⟩; obtain ⟨B3, hz3, q3, s3, t3, x3, y3, z3⟩ := bkeep (w := w) [w.heap.size] (by first | (simp; done) | (simp; omega)) (by first | (go_grown; done) | exact bdrewN (by go_grown) _) hb3; (try simp at hz3); clear hb3)
      | (go_at_call 25; refine (within_any _ _ _ _).mono ?_; rintro e w' ⟨rfl, rfl⟩))
    all_goals go_ret
    all_goals exact ⟨ret_bool (HE.out.symm), (by first | with_reducible exact B3 | (go_grown; done) | with_reducible exact bdrewN B3 _ | (go_grown <;> first | with_reducible exact bdrewN B3 _ | with_reducible exact B3))⟩
set_option maxHeartbeats 1000000 in
theorem l08Target_any (A1 A2 : Option Addr) (len n2 c1 c2 : Nat) (knot dist : Int) (w : World) (hn : len ≤ maxLen) :
    Calls Tryz.prog 23 #[profV A1 len c1 A2 n2 c2, .int .i64 knot, .int .i64 dist] w fun e w' => e = .returned (.bool (rcB len knot dist)) ∧ Below w.heap.size w w' := by
  unfold maxLen at hn
  rcases Bool.eq_false_or_eq_true (inB knot 0 ((len : Int) - 1)) with hk | hk
  · rcases Bool.eq_false_or_eq_true (inB dist 0 1000000000000) with hd | hd
    all_goals
      have HE : Hid (rcB len knot dist = inB dist 0 1000000000000) := Lib.hid (by unfold rcB; rw [hk]; rfl)
      rw [hd] at HE
      go_enter Tryz.func23, Tryz.ntmps23
      go_wp2_with (go_at_call 53; refine (l01In_any _ _ _ _).mono ?_; rintro e w' ⟨rfl, rfl⟩)
      all_goals go_ret
      all_goals exact ⟨ret_bool (HE.out.symm), by go_grown⟩
  · have HE : Hid (rcB len knot dist = false) := Lib.hid (by unfold rcB; rw [hk]; rfl)
    go_enter Tryz.func23, Tryz.ntmps23
    go_wp2_with (go_at_call 53; refine (l01In_any _ _ _ _).mono ?_; rintro e w' ⟨rfl, rfl⟩)
    all_goals go_ret
    all_goals exact ⟨ret_bool (HE.out.symm), by go_grown⟩
end

section
set_option linter.unusedSimpArgs false
set_option linter.unusedVariables false
open Go.RowKit

def fvI (ds ss : List Int) (src n lo : Int) (dn : Bool) (st : Nat) (knot dist : Int) (i : Nat) : Int := cvI ds ss src (mdC (lo + (i : Int)) n) (mdS (lo + (i : Int)) n dn) (mdH (lo + (i : Int)) n) (mdC (lo + ((i : Int) + 1)) n) (mdS (lo + ((i : Int) + 1)) n dn) (mdH (lo + ((i : Int) + 1)) n) st knot dist
def fvTo (ds ss : List Int) (src n lo : Int) (dn : Bool) (st : Nat) (knot dist : Int) (k : Nat) : List Int := (List.range k).map fun i => fvI ds ss src n lo dn st knot dist i
theorem fvTo_len (ds ss : List Int) (src n lo : Int) (dn : Bool) (st : Nat) (knot dist : Int) (k : Nat) : (fvTo ds ss src n lo dn st knot dist k).length = k := by rw [fvTo, List.length_map, List.length_range]
theorem fvTo_next (ds ss : List Int) (src n lo : Int) (dn : Bool) (st : Nat) (knot dist : Int) (k : Nat) : fvTo ds ss src n lo dn st knot dist (k + 1) = fvTo ds ss src n lo dn st knot dist k ++ [fvI ds ss src n lo dn st knot dist k] := by rw [fvTo, List.range_succ, List.map_append]; rfl
theorem fc_cells {w : World} {A : Option Addr} {c : Nat} {ds ss : List Int} {src n lo : Int} {dn : Bool} {st K k : Nat} (h : KAt w A c 11 (fcL ds ss src n lo dn st K)) (hk : k < K) :
    ∃ b off, A = some ⟨b, off, none⟩ ∧ b < w.heap.size ∧ ∀ j u, (fcE ds ss src n lo dn st k)[j]? = some u → w.cell? ⟨b, off + k * 11 + j, none⟩ = some u := by
  obtain ⟨b, off, e, rfl, hb, he, hc⟩ := h.at_ (i := k) (by rw [fcL_len]; exact hk)
  rw [fcL, List.getElem?_map, List.getElem?_range hk] at he
  simp only [Option.map_some, Option.some.injEq] at he
  subst he
  exact ⟨b, off, rfl, hb, hc⟩
@[irreducible] def fvE (ds ss : List Int) (src n lo hi st knot dist : Int) : Int := if faE ds ss src n lo hi st = 0 then (if rcB ds.length knot dist then 0 else 2) else faE ds ss src n lo hi st
@[irreducible] def fvL (ds ss : List Int) (src n lo hi : Int) (dn : Bool) (st knot dist : Int) : List Int := if fvE ds ss src n lo hi st knot dist = 0 then fvTo ds ss src n lo dn st.toNat knot dist (hi - lo).toNat else []
theorem fv_bad {ds ss : List Int} {src n lo hi st : Int} (dn : Bool) (knot dist : Int) (h : faE ds ss src n lo hi st ≠ 0) : fvE ds ss src n lo hi st knot dist = faE ds ss src n lo hi st ∧ fvL ds ss src n lo hi dn st knot dist = [] := by
  have e : fvE ds ss src n lo hi st knot dist = faE ds ss src n lo hi st := by unfold fvE; rw [if_neg h]
  exact ⟨e, by unfold fvL; rw [e, if_neg h]⟩
theorem fv_far {ds ss : List Int} {src n lo hi st knot dist : Int} (dn : Bool) (h : faE ds ss src n lo hi st = 0) (hr : rcB ds.length knot dist = false) : fvE ds ss src n lo hi st knot dist = 2 ∧ fvL ds ss src n lo hi dn st knot dist = [] := by
  have e : fvE ds ss src n lo hi st knot dist = 2 := by unfold fvE; rw [if_pos h, hr]; rfl
  exact ⟨e, by unfold fvL; rw [e]; rfl⟩
theorem fv_ok {ds ss : List Int} {src n lo hi knot dist : Int} {m : Nat} (dn : Bool) (h : faE ds ss src n lo hi m = 0) (hr : rcB ds.length knot dist = true) : fvE ds ss src n lo hi m knot dist = 0 ∧ fvL ds ss src n lo hi dn m knot dist = fvTo ds ss src n lo dn m knot dist (hi - lo).toNat := by
  have e : fvE ds ss src n lo hi m knot dist = 0 := by unfold fvE; rw [if_pos h, hr]; rfl
  exact ⟨e, by unfold fvL; rw [if_pos e, Int.toNat_natCast]⟩
theorem fvL_len (ds ss : List Int) (src n lo hi : Int) (dn : Bool) (st knot dist : Int) : (fvL ds ss src n lo hi dn st knot dist).length ≤ 31 := by
  unfold fvL
  split
  · rename_i h
    unfold fvE at h
    split at h
    · rename_i h2
      obtain ⟨-, hf, -⟩ := fa_zero h2
      have k := fan_ok hf
      rw [fvTo_len]; have := k.n1; have := k.l0; have := k.h1; omega
    · rename_i h2; exact absurd h h2
  · simp
set_option maxRecDepth 4000 in
set_option maxHeartbeats 4000000 in
theorem specFan_ok (A1 A2 : Option Addr) (c1 c2 : Nat) (ds ss : List Int) (src n lo hi : Int) (dn : Bool) (st K : Nat) (knot dist : Int) (w : World) (h : ProfAt w A1 c1 A2 c2 ds ss) (hp : profB ds ss = true) (hf : fanB n lo hi = true) (u0 : 0 ≤ src) (u1 : src ≤ (ds.length : Int) - 1) (hst : st ≤ 100) (hK1 : hi ≤ lo + K) (hK2 : lo + K ≤ hi) (hr : rcB ds.length knot dist = true) :
    Calls Tryz.prog 7 #[profV A1 ds.length c1 A2 ss.length c2, .int .i64 src, .int .i64 n, .int .i64 lo, .int .i64 hi, .bool dn, .int .i64 st, .int .i64 knot, .int .i64 dist] w fun e w' => (∃ A' c', e = .returned (.tuple #[.slice A' K c', .int .i64 0]) ∧ ResI w' w.heap.size w'.heap.size A' c' (fvTo ds ss src n lo dn st knot dist K)) ∧ Below w.heap.size w w' := by
  obtain ⟨f1, f2, f3, f4, f5⟩ := fan_ok hf
  have hnl := Nat.le_trans h.1.1 h.1.2.1
  have RV := Lib.hid (show ∀ w, Calls Tryz.prog 23 #[profV A1 ds.length c1 A2 ss.length c2, .int .i64 knot, .int .i64 dist] w fun e w' => e = .returned (.bool true) ∧ Below w.heap.size w w' from fun w => by have q := l08Target_any A1 A2 ds.length ss.length c1 c2 knot dist w hnl; rw [hr] at q; exact q)
  have LC := Lib.hid (fun w h => l08Cells_ok A1 A2 c1 c2 ds ss src n lo hi dn st K w h hp hf u0 u1 hst hK1 hK2)
  have H := Lib.hid h; clear h hp hf hr
  go_enter Tryz.func7, Tryz.ntmps7
  go_wp2_with fail
  refine (LC.out _ (H.out.below (B := w.heap.size) (by first | exact Below.refl _ _ | (go_grown; done) | exact bdrewN (by go_grown) _) (Nat.le_refl _))).mono ?_
  rintro e w1 ⟨⟨Ac, cc, rfl, RC⟩, hb1⟩
  have VC := Lib.hid (RC.mono (show w.heap.size ≤ _ by first | (simp; done) | (simp; omega)) (Nat.le_refl _)); clear RC
  obtain ⟨B1, hz1, q1, s1, t1, x1, y1, z1⟩ := bkeep (w := w) [w.heap.size] (by first | (simp; done) | (simp; omega)) (by first | (go_grown; done) | exact bdrewN (by go_grown) _) hb1; (try simp at hz1); clear hb1
  go_upto_region 7 with (go_at_call 23; refine (RV.out _).mono ?_; rintro e w2 ⟨rfl, hb2⟩; obtain ⟨B2, hz2, q2, s2, t2, x2, y2, z2⟩ := bkeep (w := w1) [w.heap.size] (by first | (simp; done) | (simp; omega)) (by first | (go_grown; done) | exact bdrewN (by go_grown) _) hb2; (try simp at hz2); clear hb2)
  refine genS (S := fun w' => Below (w.heap.size) w w' ∧ ResK w' w.heap.size w1.heap.size Ac cc 11 (fcL ds ss src n lo dn st K) ∧ OwnI w' w2.heap.size (.slice (some ⟨w2.heap.size, 0, none⟩) 0 0) [] ∧ w.heap.size ≤ w2.heap.size ∧ w1.heap.size ≤ w2.heap.size ∧ w2.heap.size ≤ w'.heap.size) ⟨(by have hb_ := B1.trans (B2.mono (show w.heap.size ≤ w1.heap.size from B1.size)); first | with_reducible exact hb_ | (go_grown; done)), (VC.out.below (B := w1.heap.size) (by first | with_reducible exact B2 | (go_grown; done)) (Nat.le_refl _)), OwnI.zero (Nat.le_refl _), ⟨by have := B1.size; have := B2.size; omega, B2.size, by first | omega | (simp; done) | (simp; omega)⟩⟩ ?_
  clear q1 s1 t1 x1 y1 z1 VC
  rintro w4 ⟨B4, GC, GO, sz2⟩
  have z4 : w.heap.size ≤ w4.heap.size := B4.size
  have VC := Lib.hid GC; have VO := Lib.hid GO; have HB := Lib.hid B4; clear GC GO B4
  obtain ⟨sz2a, sz2b, sz2c⟩ := sz2
  go_wp2
  go_loopw [22, 23] (fun v i wr => Below w2.heap.size w4 wr ∧ ∃ k : Nat, k ≤ K ∧ i = .int .i64 k ∧ OwnI wr w2.heap.size v (fvTo ds ss src n lo dn st knot dist k)) (fun _ i _ => K - (intOf i).toNat)
  case atStart => exact ⟨Below.refl _ _, 0, by omega, rfl, VO.out⟩
  case round =>
    obtain ⟨Br, k, hk, rfl, A', c', rfl, hc', hown⟩ := hrel
    simp only [fvTo_len] at hown ⊢
    have HO := Lib.hid hown; clear hown
    have sr := Br.size
    have HBr := Lib.hid Br
    have KC := Lib.hid (VC.out.below Br (by omega)).at
    by_cases hlt : k < K
    · obtain ⟨b, off, rfl, hb, hc⟩ := fc_cells KC.out hlt
      have hV : fvI ds ss src n lo dn st knot dist k = cvB (rwAt ds ss src (mdC (lo + (k : Int)) n) (mdS (lo + (k : Int)) n dn) (mdH (lo + (k : Int)) n) st) (rwAt ds ss src (mdC (lo + ((k : Int) + 1)) n) (mdS (lo + ((k : Int) + 1)) n dn) (mdH (lo + ((k : Int) + 1)) n) st) (sameN ds ss src (mdC (lo + (k : Int)) n) (mdS (lo + (k : Int)) n dn) (mdH (lo + (k : Int)) n) (mdC (lo + ((k : Int) + 1)) n) (mdS (lo + ((k : Int) + 1)) n dn) (mdH (lo + ((k : Int) + 1)) n) st) (clLo ds ss src (mdC (lo + (k : Int)) n) (mdS (lo + (k : Int)) n dn) (mdH (lo + (k : Int)) n) (mdC (lo + ((k : Int) + 1)) n) (mdS (lo + ((k : Int) + 1)) n dn) (mdH (lo + ((k : Int) + 1)) n) st) (clHi ds ss src (mdC (lo + (k : Int)) n) (mdS (lo + (k : Int)) n dn) (mdH (lo + (k : Int)) n) (mdC (lo + ((k : Int) + 1)) n) (mdS (lo + ((k : Int) + 1)) n dn) (mdH (lo + ((k : Int) + 1)) n) st) knot dist := rfl
      have hE : fcE ds ss src n lo dn st k = cellE (rwAt ds ss src (mdC (lo + (k : Int)) n) (mdS (lo + (k : Int)) n dn) (mdH (lo + (k : Int)) n) st) (rwAt ds ss src (mdC (lo + ((k : Int) + 1)) n) (mdS (lo + ((k : Int) + 1)) n dn) (mdH (lo + ((k : Int) + 1)) n) st) (sameN ds ss src (mdC (lo + (k : Int)) n) (mdS (lo + (k : Int)) n dn) (mdH (lo + (k : Int)) n) (mdC (lo + ((k : Int) + 1)) n) (mdS (lo + ((k : Int) + 1)) n dn) (mdH (lo + ((k : Int) + 1)) n) st) (clLo ds ss src (mdC (lo + (k : Int)) n) (mdS (lo + (k : Int)) n dn) (mdH (lo + (k : Int)) n) (mdC (lo + ((k : Int) + 1)) n) (mdS (lo + ((k : Int) + 1)) n dn) (mdH (lo + ((k : Int) + 1)) n) st) (clHi ds ss src (mdC (lo + (k : Int)) n) (mdS (lo + (k : Int)) n dn) (mdH (lo + (k : Int)) n) (mdC (lo + ((k : Int) + 1)) n) (mdS (lo + ((k : Int) + 1)) n dn) (mdH (lo + ((k : Int) + 1)) n) st) := rfl
      obtain ⟨xk, xd, xl, xh, hx⟩ := rs_cell (rwAt ds ss src (mdC (lo + (k : Int)) n) (mdS (lo + (k : Int)) n dn) (mdH (lo + (k : Int)) n) st)
      obtain ⟨yk, yd, yl, yh, hy_⟩ := rs_cell (rwAt ds ss src (mdC (lo + ((k : Int) + 1)) n) (mdS (lo + ((k : Int) + 1)) n dn) (mdH (lo + ((k : Int) + 1)) n) st)
      obtain ⟨sm, hsm⟩ : ∃ x, sameN ds ss src (mdC (lo + (k : Int)) n) (mdS (lo + (k : Int)) n dn) (mdH (lo + (k : Int)) n) (mdC (lo + ((k : Int) + 1)) n) (mdS (lo + ((k : Int) + 1)) n dn) (mdH (lo + ((k : Int) + 1)) n) st = x := ⟨_, rfl⟩
      obtain ⟨sl, hsl⟩ : ∃ x, clLo ds ss src (mdC (lo + (k : Int)) n) (mdS (lo + (k : Int)) n dn) (mdH (lo + (k : Int)) n) (mdC (lo + ((k : Int) + 1)) n) (mdS (lo + ((k : Int) + 1)) n dn) (mdH (lo + ((k : Int) + 1)) n) st = x := ⟨_, rfl⟩
      obtain ⟨sh, hsh⟩ : ∃ x, clHi ds ss src (mdC (lo + (k : Int)) n) (mdS (lo + (k : Int)) n dn) (mdH (lo + (k : Int)) n) (mdC (lo + ((k : Int) + 1)) n) (mdS (lo + ((k : Int) + 1)) n dn) (mdH (lo + ((k : Int) + 1)) n) st = x := ⟨_, rfl⟩
      rw [hx, hy_, hsm, hsl, hsh] at hE hV
      rw [hE] at hc
      have q0 := hc 0 _ rfl
      have q1 := hc 1 _ rfl
      have q2 := hc 2 _ rfl
      have q3 := hc 3 _ rfl
      have q4 := hc 4 _ rfl
      have q5 := hc 5 _ rfl
      have q6 := hc 6 _ rfl
      have q7 := hc 7 _ rfl
      have q8 := hc 8 _ rfl
      have q9 := hc 9 _ rfl
      have q10 := hc 10 _ rfl
      rw [Nat.add_zero] at q0
      dsimp only at q0 q1 q2 q3 q4 q5 q6 q7
      obtain ⟨v, hv⟩ : ∃ x, cvB ⟨xk, xd, xl, xh⟩ ⟨yk, yd, yl, yh⟩ sm sl sh knot dist = x := ⟨_, rfl⟩
      rw [hv] at hV
      have LV := Lib.hid (show ∀ w, Calls Tryz.prog 24 #[cellV ⟨xk, xd, xl, xh⟩ ⟨yk, yd, yl, yh⟩ sm sl sh, .int .i64 knot, .int .i64 dist] w fun e w' => e = .returned (.int .i64 v) ∧ Below w.heap.size w w' from fun w => by have q := l08Verdict_any ⟨xk, xd, xl, xh⟩ ⟨yk, yd, yl, yh⟩ sm sl sh knot dist w; rw [hv] at q; exact q)
      have HV := Lib.hid hV; clear hV hE hx hy_ hsm hsl hsh hv hc Br
      have gk2 : (k : Int) < (K : Int) := by omega
      have gk0 : (0 : Int) ≤ k := by omega
      go_wp2_with (first
        | (go_at_call 24; refine (LV.out _).mono ?_; rintro e w8 ⟨rfl, hb8⟩; have K8 := Keep.of_below (lo := w2.heap.size) hb8; have B8 := Lib.hid (HBr.out.trans (hb8.mono (show w2.heap.size ≤ wr.heap.size by omega))); have sz8 := hb8.size; clear hb8)
        | (at_builtin; refine appG rfl _ _ 24 rfl w2.heap.size 2 (.int .i64 0) 1 8 Tryz.underlying24 infoInt2 rfl (by omega) [.int .i64 v] rfl (by intro u hu; simp at hu; subst hu; rfl) _ _ _ rfl _ rfl (own_keep HO.out (by repeat' (first | with_reducible exact K8 | with_reducible exact Keep.refl _ _ _ | with_reducible refine Keep.setB ?_ ?_ _ | with_reducible refine Keep.alloc ?_ ?_ _ | with_reducible refine Keep.drew ?_ | omega | (simp; done) | (simp; omega)))) ?_ ?_ ?_ ?_ ?_; (focus (intro j u hj; match j, hj with | 0, hj => (simp at hj; subst hj; simp [*, go_sem]) | j + 1, hj => simp at hj)); (focus (unfold maxLen; omega)); (focus omega); (focus (first | omega | (simp; omega))); intro v9 w9 hown9 hg9 _; have C9 := Below.grow (B := w2.heap.size) (w0 := w4) (by have hb_ := B8.out; first | with_reducible exact hb_ | (go_grown; done)) hg9 (fun b hb => by have := HO.out.lt b hb; omega) (by first | omega | (simp; omega)); clear hg9; obtain ⟨A14, c14, rfl, hc14⟩ := owns_form hown9; have O9 := Lib.hid hown9; clear hown9))
      go_roundw
      case rel => exact ⟨C9, k + 1, by omega, by first | done | go_num | rfl, OwnI.next (L := fvTo ds ss src n lo dn st knot dist k) ((fvTo_next _ _ _ _ _ _ _ _ _ _).trans (by rw [HV.out])) (by rw [fvTo_len]; exact O9.out)⟩
      case measure => simp [intOf]; omega
    · obtain rfl : k = K := by omega
      go_wp2
      go_ret2
      refine ⟨⟨A', c', rfl, ?_⟩, HB.out.trans (HBr.out.mono (by omega))⟩
      exact (OwnI.res (n := k) (L := fvTo ds ss src n lo dn st knot dist k) ⟨A', c', by rw [fvTo_len], hc', by rw [fvTo_len]; exact HO.out⟩).mono (by omega) (Nat.le_refl _)
set_option maxHeartbeats 4000000 in
theorem specFan_any (A1 A2 : Option Addr) (c1 c2 : Nat) (ds ss : List Int) (src n lo hi : Int) (dn : Bool) (st knot dist : Int) (w : World) (h : ProfAt w A1 c1 A2 c2 ds ss) :
    Calls Tryz.prog 7 #[profV A1 ds.length c1 A2 ss.length c2, .int .i64 src, .int .i64 n, .int .i64 lo, .int .i64 hi, .bool dn, .int .i64 st, .int .i64 knot, .int .i64 dist] w fun e w' => (∃ A' c', e = .returned (.tuple #[.slice A' (fvL ds ss src n lo hi dn st knot dist).length c', .int .i64 (fvE ds ss src n lo hi st knot dist)]) ∧ ResI w' w.heap.size w'.heap.size A' c' (fvL ds ss src n lo hi dn st knot dist)) ∧ Below w.heap.size w w' := by
  have hnl := Nat.le_trans h.1.1 h.1.2.1
  rcases fa_three ds ss src n lo hi st with hc | hc | hc
  rotate_left
  · have hne : faE ds ss src n lo hi st ≠ 0 := by omega
    have ee := fv_bad dn knot dist hne
    rw [hc] at ee
    have EE := Lib.hid ee.1; have EV := Lib.hid ee.2; clear ee
    have FC := Lib.hid (show ∀ w, ProfAt w A1 c1 A2 c2 ds ss → Calls Tryz.prog 22 #[profV A1 ds.length c1 A2 ss.length c2, .int .i64 src, .int .i64 n, .int .i64 lo, .int .i64 hi, .bool dn, .int .i64 st] w fun e w' => e = .returned (.tuple #[.slice none 0 0, .int .i64 1]) ∧ Below w.heap.size w w' from fun w h => by have q := l08Cells_bad A1 A2 c1 c2 ds ss src n lo hi dn st w h hne; rw [hc] at q; exact q)
    have H := Lib.hid h; clear h hne hc
    have RV := Lib.hid (show ∀ w, Calls Tryz.prog 23 #[profV A1 ds.length c1 A2 ss.length c2, .int .i64 knot, .int .i64 dist] w fun e w' => e = .returned (.bool (rcB ds.length knot dist)) ∧ Below w.heap.size w w' from fun w => by have q := l08Target_any A1 A2 ds.length ss.length c1 c2 knot dist w hnl; exact q)
    go_enter Tryz.func7, Tryz.ntmps7
    go_wp2_with (first
      | (go_at_call 22; refine (FC.out _ (H.out.below (B := w.heap.size) (by first | exact Below.refl _ _ | (go_grown; done) | exact bdrewN (by go_grown) _) (Nat.le_refl _))).mono ?_; rintro e w1 ⟨rfl, hb1⟩; obtain ⟨B1, hz1, q1, s1, t1, x1, y1, z1⟩ := bkeep (w := w) [w.heap.size] (by first | (simp; done) | (simp; omega)) (by first | (go_grown; done) | exact bdrewN (by go_grown) _) hb1; (try simp at hz1); clear hb1)
      | (go_at_call 23; refine (RV.out _).mono ?_; rintro e w2 ⟨rfl, hb2⟩; obtain ⟨B2, hz2, q2, s2, t2, x2, y2, z2⟩ := bkeep (w := w) [w.heap.size] (by first | (simp; done) | (simp; omega)) (by first | (go_grown; done) | exact bdrewN (by go_grown) _) hb2; (try simp at hz2); clear hb2))
    all_goals go_ret2
    all_goals exact ⟨⟨none, 0, by rw [EE.out, EV.out] <;> rfl, by rw [EV.out]; exact ResI.nil _ _ _ _ _ (by omega)⟩, by first | exact (by first | with_reducible exact B2 | (go_grown; done) | with_reducible exact bdrewN B2 _ | (go_grown <;> first | with_reducible exact bdrewN B2 _ | with_reducible exact B2)) | exact (by first | with_reducible exact B1 | (go_grown; done) | with_reducible exact bdrewN B1 _ | (go_grown <;> first | with_reducible exact bdrewN B1 _ | with_reducible exact B1))⟩
  · have hne : faE ds ss src n lo hi st ≠ 0 := by omega
    have ee := fv_bad dn knot dist hne
    rw [hc] at ee
    have EE := Lib.hid ee.1; have EV := Lib.hid ee.2; clear ee
    have FC := Lib.hid (show ∀ w, ProfAt w A1 c1 A2 c2 ds ss → Calls Tryz.prog 22 #[profV A1 ds.length c1 A2 ss.length c2, .int .i64 src, .int .i64 n, .int .i64 lo, .int .i64 hi, .bool dn, .int .i64 st] w fun e w' => e = .returned (.tuple #[.slice none 0 0, .int .i64 2]) ∧ Below w.heap.size w w' from fun w h => by have q := l08Cells_bad A1 A2 c1 c2 ds ss src n lo hi dn st w h hne; rw [hc] at q; exact q)
    have H := Lib.hid h; clear h hne hc
    rcases Bool.eq_false_or_eq_true (rcB ds.length knot dist) with hr | hr
    · have RV := Lib.hid (show ∀ w, Calls Tryz.prog 23 #[profV A1 ds.length c1 A2 ss.length c2, .int .i64 knot, .int .i64 dist] w fun e w' => e = .returned (.bool true) ∧ Below w.heap.size w w' from fun w => by have q := l08Target_any A1 A2 ds.length ss.length c1 c2 knot dist w hnl; rw [hr] at q; exact q)
      go_enter Tryz.func7, Tryz.ntmps7
      go_wp2_with (first
        | (go_at_call 22; refine (FC.out _ (H.out.below (B := w.heap.size) (by first | exact Below.refl _ _ | (go_grown; done) | exact bdrewN (by go_grown) _) (Nat.le_refl _))).mono ?_; rintro e w1 ⟨rfl, hb1⟩; obtain ⟨B1, hz1, q1, s1, t1, x1, y1, z1⟩ := bkeep (w := w) [w.heap.size] (by first | (simp; done) | (simp; omega)) (by first | (go_grown; done) | exact bdrewN (by go_grown) _) hb1; (try simp at hz1); clear hb1)
        | (go_at_call 23; refine (RV.out _).mono ?_; rintro e w2 ⟨rfl, hb2⟩; obtain ⟨B2, hz2, q2, s2, t2, x2, y2, z2⟩ := bkeep (w := w) [w.heap.size] (by first | (simp; done) | (simp; omega)) (by first | (go_grown; done) | exact bdrewN (by go_grown) _) hb2; (try simp at hz2); clear hb2))
      all_goals go_ret2
      all_goals exact ⟨⟨none, 0, by rw [EE.out, EV.out] <;> rfl, by rw [EV.out]; exact ResI.nil _ _ _ _ _ (by omega)⟩, by first | exact (by first | with_reducible exact B2 | (go_grown; done) | with_reducible exact bdrewN B2 _ | (go_grown <;> first | with_reducible exact bdrewN B2 _ | with_reducible exact B2)) | exact (by first | with_reducible exact B1 | (go_grown; done) | with_reducible exact bdrewN B1 _ | (go_grown <;> first | with_reducible exact bdrewN B1 _ | with_reducible exact B1))⟩
    · have RV := Lib.hid (show ∀ w, Calls Tryz.prog 23 #[profV A1 ds.length c1 A2 ss.length c2, .int .i64 knot, .int .i64 dist] w fun e w' => e = .returned (.bool false) ∧ Below w.heap.size w w' from fun w => by have q := l08Target_any A1 A2 ds.length ss.length c1 c2 knot dist w hnl; rw [hr] at q; exact q)
      go_enter Tryz.func7, Tryz.ntmps7
      go_wp2_with (first
        | (go_at_call 22; refine (FC.out _ (H.out.below (B := w.heap.size) (by first | exact Below.refl _ _ | (go_grown; done) | exact bdrewN (by go_grown) _) (Nat.le_refl _))).mono ?_; rintro e w1 ⟨rfl, hb1⟩; obtain ⟨B1, hz1, q1, s1, t1, x1, y1, z1⟩ := bkeep (w := w) [w.heap.size] (by first | (simp; done) | (simp; omega)) (by first | (go_grown; done) | exact bdrewN (by go_grown) _) hb1; (try simp at hz1); clear hb1)
        | (go_at_call 23; refine (RV.out _).mono ?_; rintro e w2 ⟨rfl, hb2⟩; obtain ⟨B2, hz2, q2, s2, t2, x2, y2, z2⟩ := bkeep (w := w) [w.heap.size] (by first | (simp; done) | (simp; omega)) (by first | (go_grown; done) | exact bdrewN (by go_grown) _) hb2; (try simp at hz2); clear hb2))
      all_goals go_ret2
      all_goals exact ⟨⟨none, 0, by rw [EE.out, EV.out] <;> rfl, by rw [EV.out]; exact ResI.nil _ _ _ _ _ (by omega)⟩, by first | exact (by first | with_reducible exact B2 | (go_grown; done) | with_reducible exact bdrewN B2 _ | (go_grown <;> first | with_reducible exact bdrewN B2 _ | with_reducible exact B2)) | exact (by first | with_reducible exact B1 | (go_grown; done) | with_reducible exact bdrewN B1 _ | (go_grown <;> first | with_reducible exact bdrewN B1 _ | with_reducible exact B1))⟩
  obtain ⟨hp, hf, u0, u1, m, rfl, hm⟩ := fa_zero hc
  obtain ⟨K, hK⟩ : ∃ K : Nat, (hi - lo).toNat = K := ⟨_, rfl⟩
  have k := fan_ok hf
  have kl := k.l1
  rcases Bool.eq_false_or_eq_true (rcB ds.length knot dist) with hr | hr
  · have ee := fv_ok dn hc hr
    rw [ee.1, ee.2, fvTo_len, hK]
    exact specFan_ok A1 A2 c1 c2 ds ss src n lo hi dn m K knot dist w h hp hf u0 u1 hm (by omega) (by omega) hr
  · have ee := fv_far dn hc hr
    have EE := Lib.hid ee.1; have EV := Lib.hid ee.2; clear ee
    have RV := Lib.hid (show ∀ w, Calls Tryz.prog 23 #[profV A1 ds.length c1 A2 ss.length c2, .int .i64 knot, .int .i64 dist] w fun e w' => e = .returned (.bool false) ∧ Below w.heap.size w w' from fun w => by have q := l08Target_any A1 A2 ds.length ss.length c1 c2 knot dist w hnl; rw [hr] at q; exact q)
    have FC := Lib.hid (fun w h => l08Cells_ok A1 A2 c1 c2 ds ss src n lo hi dn m K w h hp hf u0 u1 hm (by omega) (by omega))
    have H := Lib.hid h; clear h hc hp hf hK k hr
    go_enter Tryz.func7, Tryz.ntmps7
    go_wp2_with (first
      | (go_at_call 22; refine (FC.out _ (H.out.below (B := w.heap.size) (by first | exact Below.refl _ _ | (go_grown; done) | exact bdrewN (by go_grown) _) (Nat.le_refl _))).mono ?_; rintro e w1 ⟨⟨Ac, cc, rfl, -⟩, hb1⟩; obtain ⟨B1, hz1, q1, s1, t1, x1, y1, z1⟩ := bkeep (w := w) [w.heap.size] (by first | (simp; done) | (simp; omega)) (by first | (go_grown; done) | exact bdrewN (by go_grown) _) hb1; (try simp at hz1); clear hb1)
      | (go_at_call 23; refine (RV.out _).mono ?_; rintro e w2 ⟨rfl, hb2⟩; obtain ⟨B2, hz2, q2, s2, t2, x2, y2, z2⟩ := bkeep (w := w) [w.heap.size] (by first | (simp; done) | (simp; omega)) (by first | (go_grown; done) | exact bdrewN (by go_grown) _) hb2; (try simp at hz2); clear hb2))
    all_goals go_ret2
    all_goals exact ⟨⟨none, 0, by rw [EE.out, EV.out] <;> rfl, by rw [EV.out]; exact ResI.nil _ _ _ _ _ (by omega)⟩, by first | exact (by first | with_reducible exact B2 | (go_grown; done) | with_reducible exact bdrewN B2 _ | (go_grown <;> first | with_reducible exact bdrewN B2 _ | with_reducible exact B2)) | exact (by first | with_reducible exact B1 | (go_grown; done) | with_reducible exact bdrewN B1 _ | (go_grown <;> first | with_reducible exact bdrewN B1 _ | with_reducible exact B1))⟩
set_option maxRecDepth 4000 in
set_option maxHeartbeats 4000000 in
theorem implFan_ok (A1 A2 : Option Addr) (c1 c2 : Nat) (ds ss : List Int) (src n lo hi : Int) (dn : Bool) (st K : Nat) (knot dist : Int) (w : World) (h : ProfAt w A1 c1 A2 c2 ds ss) (hp : profB ds ss = true) (hf : fanB n lo hi = true) (u0 : 0 ≤ src) (u1 : src ≤ (ds.length : Int) - 1) (hst : st ≤ 100) (hK1 : hi ≤ lo + K) (hK2 : lo + K ≤ hi) (hr : rcB ds.length knot dist = true) :
    Calls Tryz.prog 6 #[profV A1 ds.length c1 A2 ss.length c2, .int .i64 src, .int .i64 n, .int .i64 lo, .int .i64 hi, .bool dn, .int .i64 st, .int .i64 knot, .int .i64 dist] w fun e w' => (∃ A' c', e = .returned (.tuple #[.slice A' K c', .int .i64 0]) ∧ ResI w' w.heap.size w'.heap.size A' c' (fvTo ds ss src n lo dn st knot dist K)) ∧ Below w.heap.size w w' := by
  obtain ⟨f1, f2, f3, f4, f5⟩ := fan_ok hf
  obtain ⟨M, hM1, hM2⟩ : ∃ M : Nat, M ≤ K + 1 ∧ K + 1 ≤ M := ⟨K + 1, Nat.le_refl _, Nat.le_refl _⟩
  have hnl := Nat.le_trans h.1.1 h.1.2.1
  have hz : faE ds ss src n lo hi st = 0 := by
    unfold faE
    have a : inB src 0 ((ds.length : Int) - 1) = true := by simp [inB]; omega
    have b : inB (st : Int) 0 100 = true := by simp [inB]; omega
    rw [hp, hf, a, b]; rfl
  have RV := Lib.hid (show ∀ w, Calls Tryz.prog 18 #[profV A1 ds.length c1 A2 ss.length c2, .int .i64 knot, .int .i64 dist] w fun e w' => e = .returned (.bool true) ∧ Below w.heap.size w w' from fun w => by have q := isReceiver_any A1 A2 ds.length ss.length c1 c2 knot dist w hnl; rw [hr] at q; exact q)
  have FC := Lib.hid (show ∀ w, ProfAt w A1 c1 A2 c2 ds ss → Calls Tryz.prog 17 #[profV A1 ds.length c1 A2 ss.length c2, .int .i64 src, .int .i64 n, .int .i64 lo, .int .i64 hi, .int .i64 (st : Int)] w fun e w' => e = .returned (.int .i64 0) ∧ Below w.heap.size w w' from fun w h => by have q := fanCode_any A1 A2 c1 c2 ds ss src n lo hi st w h; rw [hz] at q; exact q)
  have r0 := fan_ray (m := lo) dn hp hf u0 u1 (by omega) (by omega)
  have l0 := r0.l0; have l1 := r0.l1; clear r0
  have H := Lib.hid h; have hp_ := Lib.hid hp; have hf_ := Lib.hid hf; clear h hr hz hp hf; have hp := Lib.hid hp_.out; have hf := Lib.hid hf_.out; clear hp_ hf_
  go_enter Tryz.func6, Tryz.ntmps6
  go_upto_region 6 with (first
    | (go_at_call 17; refine (FC.out _ (H.out.below (B := w.heap.size) (by first | exact Below.refl _ _ | (go_grown; done) | exact bdrewN (by go_grown) _) (Nat.le_refl _))).mono ?_; rintro e w1 ⟨rfl, hb1⟩; obtain ⟨B1, hz1, q1, s1, t1, x1, y1, z1⟩ := bkeep (w := w) [w.heap.size] (by first | (simp; done) | (simp; omega)) (by first | (go_grown; done) | exact bdrewN (by go_grown) _) hb1; (try simp at hz1); clear hb1)
    | (go_at_call 18; refine (RV.out _).mono ?_; rintro e w2 ⟨rfl, hb2⟩; obtain ⟨B2, hz2, q2, s2, t2, x2, y2, z2⟩ := bkeep (w := w) [w.heap.size] (by first | (simp; done) | (simp; omega)) (by first | (go_grown; done) | exact bdrewN (by go_grown) _) hb2; (try simp at hz2); clear hb2))
  go_upto_region 7 with (go_at_call 19; refine (fanOf_any n lo hi dn M _ hf.out (by omega) (by omega)).mono ?_; rintro e w3 ⟨⟨Af, cf, rfl, RF⟩, hb3⟩; have VF := Lib.hid RF.at; clear RF; obtain ⟨B3, hz3, q3, s3, t3, x3, y3, z3⟩ := bkeep (w := w) [w.heap.size] (by first | (simp; done) | (simp; omega)) (by first | (go_grown; done) | exact bdrewN (by go_grown) _) hb3; (try simp at hz3); clear hb3)
  refine genS (S := fun w' => Below (w.heap.size) w w' ∧ w.heap.size < w'.heap.size ∧ w'.cell? ⟨w.heap.size, 0, none⟩ = some (.slice A1 ds.length c1) ∧ w'.cell? ⟨w.heap.size, 1, none⟩ = some (.slice A2 ss.length c2) ∧ KAt w' Af cf 3 (fanL n lo dn M)) ⟨(by first | exact B3 | (go_grown; done) | exact bdrewN B3 _), by first | omega | (simp; done) | (simp; omega), by simp [*, go_sem], by simp [*, go_sem], VF.out.below (B := w3.heap.size) (by first | exact Below.refl _ _ | (go_grown; done) | exact bdrewN (by go_grown) _) (Nat.le_refl _)⟩ ?_
  clear q3 s3 t3 x3 y3 z3 hz3 VF
  rintro w4 ⟨B4, lt4_0, c4_0, c4_1, GF⟩
  have z4 : w.heap.size ≤ w4.heap.size := B4.size
  have HP := Lib.hid (H.out.below B4 (Nat.le_refl _)); have HB4 := Lib.hid B4; clear B4
  obtain ⟨bf, of, rfl, hbf, fa⟩ := fan_all GF (by omega)
  have FA := Lib.hid fa; clear fa GF
  go_wp2
  go_loopw [22, 23] (fun v i wr => Below w4.heap.size w4 wr ∧ ∃ (k : Nat) (ii : Int), k ≤ K ∧ ii ≤ (k : Int) + 1 ∧ (k : Int) + 1 ≤ ii ∧ i = .int .i64 ii ∧ OwnI wr w4.heap.size v (fvTo ds ss src n lo dn st knot dist k)) (fun _ i _ => M - (intOf i).toNat)
  case atStart => exact ⟨by first | exact Below.refl _ _ | go_grown, 0, 1, by omega, by omega, by omega, rfl, OwnI.none_ _ _⟩
  case round =>
    obtain ⟨Br, k, ii, hk, hi1, hi2, rfl, A', c', rfl, hc', hown⟩ := hrel
    simp only [fvTo_len] at hown ⊢
    have HO := Lib.hid hown; clear hown
    have sr := Br.size
    have HBr := Lib.hid Br
    have r0 := (bAt Br (b := w.heap.size) (o := 0) (by omega)).trans c4_0
    have r1 := (bAt Br (b := w.heap.size) (o := 1) (by omega)).trans c4_1
    have HR := Lib.hid (HP.out.below Br (Nat.le_refl _))
    by_cases hlt : k < K
    · have ra := fan_ray (m := lo + (k : Int)) dn hp.out hf.out u0 u1 (by omega) (by omega)
      have rb := fan_ray (m := lo + ((k : Int) + 1)) dn hp.out hf.out u0 u1 (by omega) (by omega)
      have hs := fan_sign (m := lo + (k : Int)) (m' := lo + ((k : Int) + 1)) dn hf.out (by omega) (by omega) (by omega) (by omega)
      obtain ⟨a0, a1, a2⟩ := FA.out k (by omega)
      obtain ⟨a3, a4, a5⟩ := FA.out (k + 1) (by omega)
      have ek : ((k + 1 : Nat) : Int) = (k : Int) + 1 := by omega
      rw [ek] at a3 a4 a5
      have b0 := (bAt Br (b := bf) (o := of + k * 3) hbf).trans a0
      have b1 := (bAt Br (b := bf) (o := of + k * 3 + 1) hbf).trans a1
      have b2 := (bAt Br (b := bf) (o := of + k * 3 + 2) hbf).trans a2
      have b3 := (bAt Br (b := bf) (o := of + (k + 1) * 3) hbf).trans a3
      have b4 := (bAt Br (b := bf) (o := of + (k + 1) * 3 + 1) hbf).trans a4
      have b5 := (bAt Br (b := bf) (o := of + (k + 1) * 3 + 2) hbf).trans a5
      clear a0 a1 a2 a3 a4 a5 ek
      have hV : fvI ds ss src n lo dn st knot dist k = cvI ds ss src (mdC (lo + (k : Int)) n) (mdS (lo + (k : Int)) n dn) (mdH (lo + (k : Int)) n) (mdC (lo + ((k : Int) + 1)) n) (mdS (lo + ((k : Int) + 1)) n dn) (mdH (lo + ((k : Int) + 1)) n) st knot dist := rfl
      generalize mdC (lo + (k : Int)) n = c0 at *
      generalize mdS (lo + (k : Int)) n dn = s0_ at *
      generalize mdH (lo + (k : Int)) n = h0 at *
      generalize mdC (lo + ((k : Int) + 1)) n = c9 at *
      generalize mdS (lo + ((k : Int) + 1)) n dn = s9 at *
      generalize mdH (lo + ((k : Int) + 1)) n = h9 at *
      obtain ⟨v, hv⟩ : ∃ x, cvI ds ss src c0 s0_ h0 c9 s9 h9 st knot dist = x := ⟨_, rfl⟩
      rw [hv] at hV
      have LV := Lib.hid (show ∀ cb As Bs cs cs' w, CellF w cb A1 A2 c1 c2 ds ss src c0 s0_ h0 c9 s9 h9 st As Bs cs cs' → Calls Tryz.prog 21 #[.pointer (some ⟨cb, 0, none⟩), .int .i64 knot, .int .i64 dist] w fun e w' => e = .returned (.int .i64 v) ∧ Below w.heap.size w w' from fun cb As Bs cs cs' w F => by have q := implVerdict_any A1 A2 c1 c2 ds ss src c0 s0_ h0 c9 s9 h9 st cb As Bs cs cs' knot dist w F ra rb hst; rw [hv] at q; exact q)
      have NC := Lib.hid (fun w h => newCell_any A1 A2 c1 c2 ds ss src c0 s0_ h0 c9 s9 h9 st w h ra rb hs hst)
      have HV := Lib.hid hV; clear hV hv ra rb hs Br
      have lbf : bf < wr.heap.size := by omega
      have lp : w.heap.size < wr.heap.size := by omega
      have lbf2 : bf ≤ wr.heap.size := by omega
      have lp2 : w.heap.size ≤ wr.heap.size := by omega
      have gi : ii < (M : Int) := by omega
      have gi0 : (0 : Int) ≤ ii := by omega
      have gi3 : ii.toNat = k + 1 := by omega
      have gk2 : (k : Int) < (M : Int) := by omega
      have gk0 : (0 : Int) ≤ k := by omega
      go_upto_region 11 with fail
      have wi : IntKind.i64.wrap (ii - 1) = (k : Int) := by rw [show ii - 1 = (k : Int) by omega]; exact IntWalk.i64_in _ (by omega)
      go_region_held3 (fun w' => w'.cell? ⟨w.heap.size, 0, none⟩ = some (.slice A1 ds.length c1) ∧ w'.cell? ⟨w.heap.size, 1, none⟩ = some (.slice A2 ss.length c2) ∧ w'.cell? ⟨bf, of + k * 3, none⟩ = some (.int .i64 c0) ∧ w'.cell? ⟨bf, of + k * 3 + 1, none⟩ = some (.int .i64 s0_) ∧ w'.cell? ⟨bf, of + k * 3 + 2, none⟩ = some (.int .i64 h0) ∧ w'.cell? ⟨bf, of + (k + 1) * 3, none⟩ = some (.int .i64 c9) ∧ w'.cell? ⟨bf, of + (k + 1) * 3 + 1, none⟩ = some (.int .i64 s9) ∧ w'.cell? ⟨bf, of + (k + 1) * 3 + 2, none⟩ = some (.int .i64 h9)) (first | (go_keep; done) | (simp [*, go_sem]; done))
        (first
          | (go_at_call 20; refine (NC.out _ (HR.out.below (B := wr.heap.size) (by first | exact Below.refl _ _ | (go_grown; done) | exact bdrewN (by go_grown) _) (Nat.le_refl _))).mono ?_; rintro e w7 ⟨⟨cb, As, Bs, cs, cs', rfl, hcb, F⟩, hb7⟩; have VF := Lib.hid F; clear F; have BB := Lib.hid ((show Below wr.heap.size wr _ from (by first | exact Below.refl _ _ | (go_grown; done) | exact bdrewN (by go_grown) _)).trans (hb7.mono (by first | omega | (simp; done) | (simp; omega)))); obtain ⟨hc7, hf7⟩ := bcell hb7; have hz7 := hb7.size; (try simp only [World.size_alloc, World.size_drew, size_set] at hz7); (try simp only [World.size_alloc, World.size_drew, size_set] at hc7); (try simp only [World.size_alloc, World.size_drew, size_set] at hf7); (try have ly7_0 : w.heap.size < w7.heap.size := (by omega)); (try have lx7_0 : w.heap.size ≤ w7.heap.size := (by omega)); (try have ly7_1 : bf < w7.heap.size := (by omega)); (try have lx7_1 : bf ≤ w7.heap.size := (by omega)); clear hb7))
      clear wi r0 r1 b0 b1 b2 b3 b4 b5
      have s7 : wr.heap.size ≤ w7.heap.size := BB.out.size
      go_wp2_with (first
        | (go_at_call 21; refine (LV.out cb As Bs cs cs' _ (VF.out.below (B := w7.heap.size) (by first | exact Below.refl _ _ | (go_grown; done) | exact bdrewN (by go_grown) _) (Nat.le_refl _))).mono ?_; rintro e w8 ⟨rfl, hb8⟩; have BC := Lib.hid (BB.out.trans ((show Below w7.heap.size w7 _ from (by first | exact Below.refl _ _ | (go_grown; done) | exact bdrewN (by go_grown) _)).trans (hb8.mono (by first | omega | (simp; done) | (simp; omega)))|>.mono s7)); have K8 := Keep.of_below (lo := w4.heap.size) BC.out; have B8 := Lib.hid (HBr.out.trans (BC.out.mono (show w4.heap.size ≤ wr.heap.size by omega))); have sz8 : wr.heap.size ≤ w8.heap.size := BC.out.size; clear hb8)
        | (at_builtin; refine appG rfl _ _ 24 rfl w4.heap.size 2 (.int .i64 0) 1 8 Tryz.underlying24 infoInt2 rfl (by omega) [.int .i64 v] rfl (by intro u hu; simp at hu; subst hu; rfl) _ _ _ rfl _ rfl (own_keep HO.out (by repeat' (first | with_reducible exact K8 | with_reducible exact Keep.refl _ _ _ | with_reducible refine Keep.setB ?_ ?_ _ | with_reducible refine Keep.alloc ?_ ?_ _ | with_reducible refine Keep.drew ?_ | omega | (simp; done) | (simp; omega)))) ?_ ?_ ?_ ?_ ?_; (focus (intro j u hj; match j, hj with | 0, hj => (simp at hj; subst hj; simp [*, go_sem]) | j + 1, hj => simp at hj)); (focus (unfold maxLen; omega)); (focus omega); (focus (first | omega | (simp; omega))); intro v9 w9 hown9 hg9 _; have C9 := Below.grow (B := w4.heap.size) (w0 := w4) (by have hb_ := B8.out; first | with_reducible exact hb_ | (go_grown; done)) hg9 (fun b hb => by have := HO.out.lt b hb; omega) (by first | omega | (simp; omega)); clear hg9; obtain ⟨A14, c14, rfl, hc14⟩ := owns_form hown9; have O9 := Lib.hid hown9; clear hown9))
      go_roundw
      case rel => exact ⟨C9, k + 1, ii + 1, by omega, by omega, by omega, by first | done | go_num | rfl, OwnI.next (L := fvTo ds ss src n lo dn st knot dist k) ((fvTo_next _ _ _ _ _ _ _ _ _ _).trans (by rw [HV.out])) (by rw [fvTo_len]; exact O9.out)⟩
      case measure => simp [intOf]; omega
    · obtain rfl : k = K := by omega
      have gx : ¬ (ii < (M : Int)) := by omega
      go_wp2
      go_ret2
      refine ⟨⟨A', c', rfl, ?_⟩, HB4.out.trans (HBr.out.mono (by omega))⟩
      exact (OwnI.res (n := k) (L := fvTo ds ss src n lo dn st knot dist k) ⟨A', c', by rw [fvTo_len], hc', by rw [fvTo_len]; exact HO.out⟩).mono (by omega) (Nat.le_refl _)
set_option maxHeartbeats 4000000 in
theorem implFan_any (A1 A2 : Option Addr) (c1 c2 : Nat) (ds ss : List Int) (src n lo hi : Int) (dn : Bool) (st knot dist : Int) (w : World) (h : ProfAt w A1 c1 A2 c2 ds ss) :
    Calls Tryz.prog 6 #[profV A1 ds.length c1 A2 ss.length c2, .int .i64 src, .int .i64 n, .int .i64 lo, .int .i64 hi, .bool dn, .int .i64 st, .int .i64 knot, .int .i64 dist] w fun e w' => (∃ A' c', e = .returned (.tuple #[.slice A' (fvL ds ss src n lo hi dn st knot dist).length c', .int .i64 (fvE ds ss src n lo hi st knot dist)]) ∧ ResI w' w.heap.size w'.heap.size A' c' (fvL ds ss src n lo hi dn st knot dist)) ∧ Below w.heap.size w w' := by
  have hnl := Nat.le_trans h.1.1 h.1.2.1
  rcases fa_three ds ss src n lo hi st with hc | hc | hc
  rotate_left
  · have hne : faE ds ss src n lo hi st ≠ 0 := by omega
    have ee := fv_bad dn knot dist hne
    rw [hc] at ee
    have EE := Lib.hid ee.1; have EV := Lib.hid ee.2; clear ee
    have FC := Lib.hid (show ∀ w, ProfAt w A1 c1 A2 c2 ds ss → Calls Tryz.prog 17 #[profV A1 ds.length c1 A2 ss.length c2, .int .i64 src, .int .i64 n, .int .i64 lo, .int .i64 hi, .int .i64 st] w fun e w' => e = .returned (.int .i64 1) ∧ Below w.heap.size w w' from fun w h => by have q := fanCode_any A1 A2 c1 c2 ds ss src n lo hi st w h; rw [hc] at q; exact q)
    have H := Lib.hid h; clear h hne hc
    have RV := Lib.hid (show ∀ w, Calls Tryz.prog 18 #[profV A1 ds.length c1 A2 ss.length c2, .int .i64 knot, .int .i64 dist] w fun e w' => e = .returned (.bool (rcB ds.length knot dist)) ∧ Below w.heap.size w w' from fun w => by have q := isReceiver_any A1 A2 ds.length ss.length c1 c2 knot dist w hnl; exact q)
    go_enter Tryz.func6, Tryz.ntmps6
    go_wp2_with (first
      | (go_at_call 17; refine (FC.out _ (H.out.below (B := w.heap.size) (by first | exact Below.refl _ _ | (go_grown; done) | exact bdrewN (by go_grown) _) (Nat.le_refl _))).mono ?_; rintro e w1 ⟨rfl, hb1⟩; obtain ⟨B1, hz1, q1, s1, t1, x1, y1, z1⟩ := bkeep (w := w) [w.heap.size] (by first | (simp; done) | (simp; omega)) (by first | (go_grown; done) | exact bdrewN (by go_grown) _) hb1; (try simp at hz1); clear hb1)
      | (go_at_call 18; refine (RV.out _).mono ?_; rintro e w2 ⟨rfl, hb2⟩; obtain ⟨B2, hz2, q2, s2, t2, x2, y2, z2⟩ := bkeep (w := w) [w.heap.size] (by first | (simp; done) | (simp; omega)) (by first | (go_grown; done) | exact bdrewN (by go_grown) _) hb2; (try simp at hz2); clear hb2))
    all_goals go_ret2
    all_goals exact ⟨⟨none, 0, by rw [EE.out, EV.out] <;> rfl, by rw [EV.out]; exact ResI.nil _ _ _ _ _ (by omega)⟩, by first | exact (by first | with_reducible exact B2 | (go_grown; done) | with_reducible exact bdrewN B2 _ | (go_grown <;> first | with_reducible exact bdrewN B2 _ | with_reducible exact B2)) | exact (by first | with_reducible exact B1 | (go_grown; done) | with_reducible exact bdrewN B1 _ | (go_grown <;> first | with_reducible exact bdrewN B1 _ | with_reducible exact B1))⟩
  · have hne : faE ds ss src n lo hi st ≠ 0 := by omega
    have ee := fv_bad dn knot dist hne
    rw [hc] at ee
    have EE := Lib.hid ee.1; have EV := Lib.hid ee.2; clear ee
    have FC := Lib.hid (show ∀ w, ProfAt w A1 c1 A2 c2 ds ss → Calls Tryz.prog 17 #[profV A1 ds.length c1 A2 ss.length c2, .int .i64 src, .int .i64 n, .int .i64 lo, .int .i64 hi, .int .i64 st] w fun e w' => e = .returned (.int .i64 2) ∧ Below w.heap.size w w' from fun w h => by have q := fanCode_any A1 A2 c1 c2 ds ss src n lo hi st w h; rw [hc] at q; exact q)
    have H := Lib.hid h; clear h hne hc
    have RV := Lib.hid (show ∀ w, Calls Tryz.prog 18 #[profV A1 ds.length c1 A2 ss.length c2, .int .i64 knot, .int .i64 dist] w fun e w' => e = .returned (.bool (rcB ds.length knot dist)) ∧ Below w.heap.size w w' from fun w => by have q := isReceiver_any A1 A2 ds.length ss.length c1 c2 knot dist w hnl; exact q)
    go_enter Tryz.func6, Tryz.ntmps6
    go_wp2_with (first
      | (go_at_call 17; refine (FC.out _ (H.out.below (B := w.heap.size) (by first | exact Below.refl _ _ | (go_grown; done) | exact bdrewN (by go_grown) _) (Nat.le_refl _))).mono ?_; rintro e w1 ⟨rfl, hb1⟩; obtain ⟨B1, hz1, q1, s1, t1, x1, y1, z1⟩ := bkeep (w := w) [w.heap.size] (by first | (simp; done) | (simp; omega)) (by first | (go_grown; done) | exact bdrewN (by go_grown) _) hb1; (try simp at hz1); clear hb1)
      | (go_at_call 18; refine (RV.out _).mono ?_; rintro e w2 ⟨rfl, hb2⟩; obtain ⟨B2, hz2, q2, s2, t2, x2, y2, z2⟩ := bkeep (w := w) [w.heap.size] (by first | (simp; done) | (simp; omega)) (by first | (go_grown; done) | exact bdrewN (by go_grown) _) hb2; (try simp at hz2); clear hb2))
    all_goals go_ret2
    all_goals exact ⟨⟨none, 0, by rw [EE.out, EV.out] <;> rfl, by rw [EV.out]; exact ResI.nil _ _ _ _ _ (by omega)⟩, by first | exact (by first | with_reducible exact B2 | (go_grown; done) | with_reducible exact bdrewN B2 _ | (go_grown <;> first | with_reducible exact bdrewN B2 _ | with_reducible exact B2)) | exact (by first | with_reducible exact B1 | (go_grown; done) | with_reducible exact bdrewN B1 _ | (go_grown <;> first | with_reducible exact bdrewN B1 _ | with_reducible exact B1))⟩
  obtain ⟨hp, hf, u0, u1, m, rfl, hm⟩ := fa_zero hc
  obtain ⟨K, hK⟩ : ∃ K : Nat, (hi - lo).toNat = K := ⟨_, rfl⟩
  have k := fan_ok hf
  have kl := k.l1
  rcases Bool.eq_false_or_eq_true (rcB ds.length knot dist) with hr | hr
  · have ee := fv_ok dn hc hr
    rw [ee.1, ee.2, fvTo_len, hK]
    exact implFan_ok A1 A2 c1 c2 ds ss src n lo hi dn m K knot dist w h hp hf u0 u1 hm (by omega) (by omega) hr
  · have ee := fv_far dn hc hr
    have EE := Lib.hid ee.1; have EV := Lib.hid ee.2; clear ee
    have RV := Lib.hid (show ∀ w, Calls Tryz.prog 18 #[profV A1 ds.length c1 A2 ss.length c2, .int .i64 knot, .int .i64 dist] w fun e w' => e = .returned (.bool false) ∧ Below w.heap.size w w' from fun w => by have q := isReceiver_any A1 A2 ds.length ss.length c1 c2 knot dist w hnl; rw [hr] at q; exact q)
    have FC := Lib.hid (show ∀ w, ProfAt w A1 c1 A2 c2 ds ss → Calls Tryz.prog 17 #[profV A1 ds.length c1 A2 ss.length c2, .int .i64 src, .int .i64 n, .int .i64 lo, .int .i64 hi, .int .i64 (m : Int)] w fun e w' => e = .returned (.int .i64 0) ∧ Below w.heap.size w w' from fun w h => by have q := fanCode_any A1 A2 c1 c2 ds ss src n lo hi m w h; rw [hc] at q; exact q)
    have H := Lib.hid h; clear h hc hp hf hK k hr
    go_enter Tryz.func6, Tryz.ntmps6
    go_wp2_with (first
      | (go_at_call 17; refine (FC.out _ (H.out.below (B := w.heap.size) (by first | exact Below.refl _ _ | (go_grown; done) | exact bdrewN (by go_grown) _) (Nat.le_refl _))).mono ?_; rintro e w1 ⟨rfl, hb1⟩; obtain ⟨B1, hz1, q1, s1, t1, x1, y1, z1⟩ := bkeep (w := w) [w.heap.size] (by first | (simp; done) | (simp; omega)) (by first | (go_grown; done) | exact bdrewN (by go_grown) _) hb1; (try simp at hz1); clear hb1)
      | (go_at_call 18; refine (RV.out _).mono ?_; rintro e w2 ⟨rfl, hb2⟩; obtain ⟨B2, hz2, q2, s2, t2, x2, y2, z2⟩ := bkeep (w := w) [w.heap.size] (by first | (simp; done) | (simp; omega)) (by first | (go_grown; done) | exact bdrewN (by go_grown) _) hb2; (try simp at hz2); clear hb2))
    all_goals go_ret2
    all_goals exact ⟨⟨none, 0, by rw [EE.out, EV.out] <;> rfl, by rw [EV.out]; exact ResI.nil _ _ _ _ _ (by omega)⟩, by first | exact (by first | with_reducible exact B2 | (go_grown; done) | with_reducible exact bdrewN B2 _ | (go_grown <;> first | with_reducible exact bdrewN B2 _ | with_reducible exact B2)) | exact (by first | with_reducible exact B1 | (go_grown; done) | with_reducible exact bdrewN B1 _ | (go_grown <;> first | with_reducible exact bdrewN B1 _ | with_reducible exact B1))⟩
end

section
set_option linter.unusedSimpArgs false
set_option linter.unusedVariables false
open Go.RowKit

/-- the first numbers of the cells that are not free -/
def ocTo (L : List Int) (lo : Int) : Nat → List Int
  | 0 => []
  | k + 1 => if spd L k = 0 then ocTo L lo k else ocTo L lo k ++ [lo + k]
theorem ocTo_len (L : List Int) (lo : Int) : ∀ k, (ocTo L lo k).length ≤ k := by
  intro k
  induction k with
  | zero => simp [ocTo]
  | succ k ih => rw [ocTo]; split
                 · omega
                 · rw [List.length_append]; simp; exact ih
theorem oc_no {L : List Int} {lo : Int} {k : Nat} (h : spd L k = 0) : ocTo L lo (k + 1) = ocTo L lo k := by rw [ocTo, if_pos h]
theorem oc_yes {L : List Int} {lo : Int} {k : Nat} (h : spd L k ≠ 0) : ocTo L lo (k + 1) = ocTo L lo k ++ [lo + k] := by rw [ocTo, if_neg h]
@[irreducible] def ocL (ds ss : List Int) (src n lo hi : Int) (dn : Bool) (st knot dist : Int) : List Int := ocTo (fvL ds ss src n lo hi dn st knot dist) lo (fvL ds ss src n lo hi dn st knot dist).length
theorem ocL_len (ds ss : List Int) (src n lo hi : Int) (dn : Bool) (st knot dist : Int) : (ocL ds ss src n lo hi dn st knot dist).length ≤ 31 := by
  unfold ocL
  have a := ocTo_len (fvL ds ss src n lo hi dn st knot dist) lo (fvL ds ss src n lo hi dn st knot dist).length
  have b := fvL_len ds ss src n lo hi dn st knot dist
  omega
theorem oc_is (ds ss : List Int) (src n lo hi : Int) (dn : Bool) (st knot dist : Int) : ocL ds ss src n lo hi dn st knot dist = ocTo (fvL ds ss src n lo hi dn st knot dist) lo (fvL ds ss src n lo hi dn st knot dist).length := by unfold ocL; rfl
theorem fv_nil {ds ss : List Int} {src n lo hi : Int} {dn : Bool} {st knot dist : Int} (h : fvE ds ss src n lo hi st knot dist ≠ 0) : fvL ds ss src n lo hi dn st knot dist = [] := by unfold fvL; rw [if_neg h]
theorem fv_lo {ds ss : List Int} {src n lo hi : Int} {dn : Bool} {st knot dist : Int} (h : fvL ds ss src n lo hi dn st knot dist ≠ []) : 1 ≤ lo ∧ lo ≤ 31 := by
  by_cases hc : fvE ds ss src n lo hi st knot dist = 0
  · unfold fvE at hc
    split at hc
    · rename_i h2
      obtain ⟨-, hf, -⟩ := fa_zero h2
      have k := fan_ok hf
      exact ⟨k.l0, by have := k.n1; have := k.l1; have := k.h1; omega⟩
    · rename_i h2; exact absurd hc h2
  · exact absurd (fv_nil hc) h
end
end Go.Proofs.YtopggkomkfjbfaaGreat
