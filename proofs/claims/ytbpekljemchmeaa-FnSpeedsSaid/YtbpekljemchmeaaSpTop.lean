/- The law of FnSpeeds: the speed at a depth lies between those of the knots of its layer. -/
import Derived.Test.YtbpekljemchmeaaDrawDep
import Derived.Test.YtbpekljemchmeaaLayer
import Derived.Test.YtbpekljemchmeaaBig
import Derived.Deep.QuietTactic
import Derived.BigQuiet
namespace Go.Proofs.Ytbpekljemchmeaa
set_option linter.unusedSimpArgs false
set_option linter.unusedVariables false
open Go.RowKit

set_option maxRecDepth 100000 in
set_option maxHeartbeats 8000000 in
theorem lawSpeeds_any (A : Option Addr) (c : Nat) (xs : List Int) (w : World) (h : BytesAt w A c xs) :
    Calls Try.prog 3 #[.slice A xs.length c] w fun e w' => e = .returned (.bool true) ∧ Below w.heap.size w w' := by
  have hn := Nat.le_trans h.1 h.2.1
  have H := Lib.hid h; clear h
  by_cases hbig : (4096 : Int) < xs.length
  · go_enter Try.func3, Try.ntmps3
    go_wp2_with (go_at_call 4; refine (big_any _ _ _ _ hn).mono ?_; rintro e w' ⟨rfl, rfl⟩)
    go_ret
    exact ⟨rfl, Below.refl _ _⟩
  · go_enter Try.func3, Try.ntmps3
    go_wp2_with (go_at_call 4; refine (big_any _ _ _ _ hn).mono ?_; rintro e w' ⟨rfl, rfl⟩)
    refine (drawSpeedAt_any A c xs _ H.out).mono ?_
    rintro e w3 ⟨⟨A1, c1, A2, c2, ts, ls, z, rfl, rp⟩, hb3⟩
    have P := Lib.hid rp.at; clear rp
    have HX := Lib.hid (H.out.below hb3 (Nat.le_refl _))
    have B3 := Lib.hid hb3; clear hb3
    by_cases hc : depE ts ls z = 0
    · obtain ⟨m, eK, m1, l1, l2, l3, z0, z1, p1, p2, p3, p4, p5, p6⟩ := speeds_ok hc
      obtain ⟨b1, o1, rfl, hb1, q1_⟩ := P.out.1.spd (by omega)
      obtain ⟨b2, o2, rfl, hb2, q2_⟩ := P.out.2.spd (by omega)
      clear q1_ q2_
      obtain ⟨xl, hxl⟩ : ∃ x, spLo ts ls z = x := ⟨_, rfl⟩
      obtain ⟨xh, hxh⟩ : ∃ x, spHi ts ls z = x := ⟨_, rfl⟩
      rw [hxl] at p1 p3 p4 p6; rw [hxh] at p2 p3 p5 p6
      have LI := Lib.hid (show ∀ w, ProfAt w (some ⟨b1, o1, none⟩) c1 (some ⟨b2, o2, none⟩) c2 ts ls → Calls Try.prog 8 #[profV (some ⟨b1, o1, none⟩) ts.length c1 (some ⟨b2, o2, none⟩) ls.length c2, .int .i64 z] w fun e w' => e = .returned (.tuple #[.int .i64 m, .int .i64 0]) ∧ Below w.heap.size w w' from fun w h => by have q := implLayerOf_any _ _ _ _ _ _ z w h; rw [eK, hc] at q; exact q)
      have LS := Lib.hid (show ∀ w, ProfAt w (some ⟨b1, o1, none⟩) c1 (some ⟨b2, o2, none⟩) c2 ts ls → Calls Try.prog 9 #[profV (some ⟨b1, o1, none⟩) ts.length c1 (some ⟨b2, o2, none⟩) ls.length c2, .int .i64 z] w fun e w' => e = .returned (.tuple #[.int .i64 m, .int .i64 0]) ∧ Below w.heap.size w w' from fun w h => by have q := specLayerOf_any _ _ _ _ _ _ z w h; rw [eK, hc] at q; exact q)
      have SI := Lib.hid (show ∀ w, ProfAt w (some ⟨b1, o1, none⟩) c1 (some ⟨b2, o2, none⟩) c2 ts ls → Calls Try.prog 6 #[profV (some ⟨b1, o1, none⟩) ts.length c1 (some ⟨b2, o2, none⟩) ls.length c2, .int .i64 z] w fun e w' => e = .returned (.tuple #[ivV xl xh, .int .i64 0]) ∧ Below w.heap.size w w' from fun w h => by have q := implSpeedAt_any _ _ _ _ _ _ z w h; rw [hxl, hxh, hc] at q; exact q)
      have SQ := Lib.hid (show ∀ w, ProfAt w (some ⟨b1, o1, none⟩) c1 (some ⟨b2, o2, none⟩) c2 ts ls → Calls Try.prog 7 #[profV (some ⟨b1, o1, none⟩) ts.length c1 (some ⟨b2, o2, none⟩) ls.length c2, .int .i64 z] w fun e w' => e = .returned (.tuple #[ivV xl xh, .int .i64 0]) ∧ Below w.heap.size w w' from fun w h => by have q := specSpeedAt_any _ _ _ _ _ _ z w h; rw [hxl, hxh, hc] at q; exact q)
      clear hc eK hxl hxh
      go_wp2_with fail
      refine (SI.out _ (P.out.below (B := w3.heap.size) (by first | exact Below.refl _ _ | (go_grown; done) | exact bdrewN (by go_grown) _) (Nat.le_refl _))).mono ?_
      rintro e w4 ⟨rfl, hb4⟩
      have P := Lib.hid (((P.out).below (B := w3.heap.size) (by first | exact Below.refl _ _ | (go_grown; done) | exact bdrewN (by go_grown) _) (Nat.le_refl _)).below hb4 (Nat.le_refl _))
      obtain ⟨B4, hz4, q4, s4, t4, x4, y4, z4⟩ := bkeep (w := w3) [w3.heap.size] (by first | (simp; done) | (simp; omega)) (by first | (go_grown; done) | exact bdrewN (by go_grown) _) hb4; (try simp at hz4); clear hb4
      go_wp2_with fail
      refine (SQ.out _ (P.out.below (B := w4.heap.size) (by first | exact Below.refl _ _ | (go_grown; done) | exact bdrewN (by go_grown) _) (Nat.le_refl _))).mono ?_
      rintro e w5 ⟨rfl, hb5⟩
      have P := Lib.hid (((P.out).below (B := w4.heap.size) (by first | exact Below.refl _ _ | (go_grown; done) | exact bdrewN (by go_grown) _) (Nat.le_refl _)).below hb5 (Nat.le_refl _))
      obtain ⟨B5, hz5, q5, s5, t5, x5, y5, z5⟩ := bkeep (w := w3) [w3.heap.size, w4.heap.size] (by first | (simp; done) | (simp; omega)) (by first | (go_grown; done) | exact bdrewN (by go_grown) _) hb5; (try simp at hz5); clear hb5
      go_wp2_with fail
      refine (LI.out _ (P.out.below (B := w5.heap.size) (by first | exact Below.refl _ _ | (go_grown; done) | exact bdrewN (by go_grown) _) (Nat.le_refl _))).mono ?_
      rintro e w6 ⟨rfl, hb6⟩
      have P := Lib.hid (((P.out).below (B := w5.heap.size) (by first | exact Below.refl _ _ | (go_grown; done) | exact bdrewN (by go_grown) _) (Nat.le_refl _)).below hb6 (Nat.le_refl _))
      obtain ⟨B6, hz6, q6, s6, t6, x6, y6, z6⟩ := bkeep (w := w3) [w3.heap.size, w4.heap.size, w5.heap.size] (by first | (simp; done) | (simp; omega)) (by first | (go_grown; done) | exact bdrewN (by go_grown) _) hb6; (try simp at hz6); clear hb6
      go_wp2_with fail
      refine (LS.out _ (P.out.below (B := w6.heap.size) (by first | exact Below.refl _ _ | (go_grown; done) | exact bdrewN (by go_grown) _) (Nat.le_refl _))).mono ?_
      rintro e w7 ⟨rfl, hb7⟩
      have P := Lib.hid (((P.out).below (B := w6.heap.size) (by first | exact Below.refl _ _ | (go_grown; done) | exact bdrewN (by go_grown) _) (Nat.le_refl _)).below hb7 (Nat.le_refl _))
      obtain ⟨B7, hz7, q7, s7, t7, x7, y7, z7⟩ := bkeep (w := w3) [w3.heap.size, w4.heap.size, w5.heap.size] (by first | (simp; done) | (simp; omega)) (by first | (go_grown; done) | exact bdrewN (by go_grown) _) hb7; (try simp at hz7); clear hb7
      go_wp2_with fail
      refine genS (S := fun w' => Below w3.heap.size w3 w' ∧ w3.heap.size < w'.heap.size ∧ w4.heap.size < w'.heap.size ∧ w'.cell? ⟨w3.heap.size, 0, none⟩ = some (.slice (some ⟨b1, o1, none⟩) (List.length ts) c1) ∧ w'.cell? ⟨w3.heap.size, 1, none⟩ = some (.slice (some ⟨b2, o2, none⟩) (List.length ls) c2) ∧ w'.cell? ⟨w4.heap.size, 0, none⟩ = some (.int .i64 xl) ∧ w'.cell? ⟨w4.heap.size, 1, none⟩ = some (.int .i64 xh) ∧ ProfAt w' (some ⟨b1, o1, none⟩) c1 (some ⟨b2, o2, none⟩) c2 ts ls) ⟨(by first | exact B7 | exact bdrewN B7 _ | exact bdrewN (bdrewN B7 _) _ | (go_grown; done) | (go_grown <;> exact bdrewN B7 _)), by first | omega | (simp; done) | (simp; omega), by first | omega | (simp; done) | (simp; omega), by simp [*, go_sem], by simp [*, go_sem], by simp [*, go_sem], by simp [*, go_sem], (P.out).below (B := w7.heap.size) (by first | exact Below.refl _ _ | exact bdrewN (Below.refl _ _) _ | exact bdrewN (bdrewN (Below.refl _ _) _) _ | (go_grown; done) | exact bdrewN (by go_grown) _) (Nat.le_refl _)⟩ ?_
      clear q4 s4 t4 x4 y4 z4 hz4 q5 s5 t5 x5 y5 z5 hz5 q6 s6 t6 x6 y6 z6 hz6 q7 s7 t7 x7 y7 z7 hz7 hb1 hb2
      rintro w8 ⟨B8, lt8_0, lt8_1, c8_0, c8_1, c8_2, c8_3, rr_P⟩
      have P := Lib.hid rr_P; clear rr_P
      obtain ⟨b1', o1', e1_, hb1, q1⟩ := P.out.1.spd (by omega)
      simp only [Option.some.injEq, Addr.mk.injEq, and_true] at e1_
      obtain ⟨rfl, rfl⟩ := e1_
      obtain ⟨b2', o2', e2_, hb2, q2⟩ := P.out.2.spd (by omega)
      simp only [Option.some.injEq, Addr.mk.injEq, and_true] at e2_
      obtain ⟨rfl, rfl⟩ := e2_
      have kk : ((m + 1 : Nat) : Int) = (m : Int) + 1 := by omega
      have d0 := q1 m (by omega); have d1 := q1 (m + 1) (by omega); have s0 := q2 m (by omega); have s1 := q2 (m + 1) (by omega)
      rw [kk] at d1 s1
      generalize spd ts m = y0 at *
      generalize spd ts ((m : Int) + 1) = y1 at *
      generalize spd ls m = x0 at *
      generalize spd ls ((m : Int) + 1) = x1 at *
      have mm0 : (0 : Int) ≤ m := by omega
      have mm1 : (m : Int) < ts.length := by omega
      have mm2 : (0 : Int) ≤ (m : Int) + 1 := by omega
      have mm3 : (m : Int) + 1 < ts.length := by omega
      have mm5 : (m : Int) < ls.length := by omega
      have mm6 : (m : Int) + 1 < ls.length := by omega
      have mm4 : ((m : Int) + 1).toNat = m + 1 := by omega
      clear q1 q2 kk
      have W0 : IntKind.i64.wrap ((m : Int) + 1) = (m : Int) + 1 := IntWalk.i64_in _ (by omega)
      go_quiet (fail)
      clear W0
      go_wp2
      all_goals go_ret
      all_goals exact ⟨ret_bool (by first | (simp; done) | (simp; omega)), B3.out.trans (Below.mono (show Below w3.heap.size w3 _ by first | exact B8 | (go_grown; done) | exact bdrewN B8 _ | exact bdrewN (bdrewN B8 _) _ | exact bdrewN (by go_grown) _ | (go_grown <;> exact bdrewN B8 _)) B3.out.size)⟩
    · have hc2 : (depE ts ls z != 0) = true := by simpa using hc
      go_wp2_with fail
      refine (implSpeedAt_any _ _ _ _ _ _ _ _ (P.out.below (B := w3.heap.size) (by first | exact Below.refl _ _ | (go_grown; done) | exact bdrewN (by go_grown) _) (Nat.le_refl _))).mono ?_
      rintro e w4 ⟨rfl, hb4⟩
      have P := Lib.hid (((P.out).below (B := w3.heap.size) (by first | exact Below.refl _ _ | (go_grown; done) | exact bdrewN (by go_grown) _) (Nat.le_refl _)).below hb4 (Nat.le_refl _))
      obtain ⟨B4, hz4, q4, s4, t4, x4, y4, z4⟩ := bkeep (w := w3) [w3.heap.size] (by first | (simp; done) | (simp; omega)) (by first | (go_grown; done) | exact bdrewN (by go_grown) _) hb4; (try simp at hz4); clear hb4
      go_wp2_with fail
      refine (specSpeedAt_any _ _ _ _ _ _ _ _ (P.out.below (B := w4.heap.size) (by first | exact Below.refl _ _ | (go_grown; done) | exact bdrewN (by go_grown) _) (Nat.le_refl _))).mono ?_
      rintro e w5 ⟨rfl, hb5⟩
      have P := Lib.hid (((P.out).below (B := w4.heap.size) (by first | exact Below.refl _ _ | (go_grown; done) | exact bdrewN (by go_grown) _) (Nat.le_refl _)).below hb5 (Nat.le_refl _))
      obtain ⟨B5, hz5, q5, s5, t5, x5, y5, z5⟩ := bkeep (w := w3) [w3.heap.size, w4.heap.size] (by first | (simp; done) | (simp; omega)) (by first | (go_grown; done) | exact bdrewN (by go_grown) _) hb5; (try simp at hz5); clear hb5
      go_wp2_with fail
      refine (implLayerOf_any _ _ _ _ _ _ _ _ (P.out.below (B := w5.heap.size) (by first | exact Below.refl _ _ | (go_grown; done) | exact bdrewN (by go_grown) _) (Nat.le_refl _))).mono ?_
      rintro e w6 ⟨rfl, hb6⟩
      have P := Lib.hid (((P.out).below (B := w5.heap.size) (by first | exact Below.refl _ _ | (go_grown; done) | exact bdrewN (by go_grown) _) (Nat.le_refl _)).below hb6 (Nat.le_refl _))
      obtain ⟨B6, hz6, q6, s6, t6, x6, y6, z6⟩ := bkeep (w := w3) [w3.heap.size, w4.heap.size, w5.heap.size] (by first | (simp; done) | (simp; omega)) (by first | (go_grown; done) | exact bdrewN (by go_grown) _) hb6; (try simp at hz6); clear hb6
      go_wp2_with fail
      refine (specLayerOf_any _ _ _ _ _ _ _ _ (P.out.below (B := w6.heap.size) (by first | exact Below.refl _ _ | (go_grown; done) | exact bdrewN (by go_grown) _) (Nat.le_refl _))).mono ?_
      rintro e w7 ⟨rfl, hb7⟩
      have P := Lib.hid (((P.out).below (B := w6.heap.size) (by first | exact Below.refl _ _ | (go_grown; done) | exact bdrewN (by go_grown) _) (Nat.le_refl _)).below hb7 (Nat.le_refl _))
      obtain ⟨B7, hz7, q7, s7, t7, x7, y7, z7⟩ := bkeep (w := w3) [w3.heap.size, w4.heap.size, w5.heap.size] (by first | (simp; done) | (simp; omega)) (by first | (go_grown; done) | exact bdrewN (by go_grown) _) hb7; (try simp at hz7); clear hb7
      go_wp2
      go_ret
      exact ⟨rfl, B3.out.trans (Below.mono (show Below w3.heap.size w3 _ by first | exact B7 | (go_grown; done) | exact bdrewN B7 _ | exact bdrewN (by go_grown) _ | (go_grown <;> exact bdrewN B7 _)) B3.out.size)⟩
end Go.Proofs.Ytbpekljemchmeaa
