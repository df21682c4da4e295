/- The law of FnTurnings: a ray turns inside of its layer, and its way there is not longer than the diameter of its circle. -/
import Derived.Test.YtmgmhaikehjddaaDrawTurn
import Derived.Test.YtmgmhaikehjddaaTurnOk
import Derived.Test.YtmgmhaikehjddaaTd2
import Derived.Test.YtmgmhaikehjddaaTn2
import Derived.Test.YtmgmhaikehjddaaBig
import Derived.Deep.QuietTactic
import Derived.BigQuiet
namespace Go.Proofs.Ytmgmhaikehjddaa
set_option linter.unusedSimpArgs false
set_option linter.unusedVariables false
open Go.RowKit

set_option maxRecDepth 100000 in
set_option maxHeartbeats 16000000 in
theorem lawTurnings_any (A : Option Addr) (c : Nat) (xs : List Int) (w : World) (h : BytesAt w A c xs) :
    Calls Try.prog 6 #[.slice A xs.length c] w fun e w' => e = .returned (.bool true) ∧ Below w.heap.size w w' := by
  have hn := Nat.le_trans h.1 h.2.1
  have H := Lib.hid h; clear h
  by_cases hbig : (4096 : Int) < xs.length
  · go_enter Try.func6, Try.ntmps6
    go_wp2_with (go_at_call 14; refine (big_any _ _ _ _ hn).mono ?_; rintro e w' ⟨rfl, rfl⟩)
    go_ret
    exact ⟨rfl, Below.refl _ _⟩
  · go_enter Try.func6, Try.ntmps6
    go_wp2_with (go_at_call 14; refine (big_any _ _ _ _ hn).mono ?_; rintro e w' ⟨rfl, rfl⟩)
    refine (drawTurnRange_any A c xs _ H.out).mono ?_
    rintro e w3 ⟨⟨A1, c1, A2, c2, ts, ls, src, co, si, hy, l, ab, rfl, rp⟩, hb3⟩
    have P := Lib.hid rp.at; clear rp
    have HX := Lib.hid (H.out.below hb3 (Nat.le_refl _))
    have B3 := Lib.hid hb3; clear hb3
    go_wp2_with fail
    refine (implTurnRange_any _ _ _ _ _ _ _ _ _ _ _ _ _ (P.out.below (B := w3.heap.size) (by first | exact Below.refl _ _ | (go_grown; done) | exact bdrewN (by go_grown) _) (Nat.le_refl _))).mono ?_
    rintro e w4 ⟨rfl, hb4⟩
    have P := Lib.hid (((P.out).below (B := w3.heap.size) (by first | exact Below.refl _ _ | (go_grown; done) | exact bdrewN (by go_grown) _) (Nat.le_refl _)).below hb4 (Nat.le_refl _))
    obtain ⟨B4, hz4, q4, s4, t4, x4, y4, z4⟩ := bkeep (w := w3) [w3.heap.size, w3.heap.size + 1] (by first | (simp; done) | (simp; omega)) (by first | (go_grown; done) | exact bdrewN (by go_grown) _) hb4; (try simp at hz4); clear hb4
    go_wp2_with fail
    refine (specTurnRange_any _ _ _ _ _ _ _ _ _ _ _ _ _ (P.out.below (B := w4.heap.size) (by first | exact Below.refl _ _ | (go_grown; done) | exact bdrewN (by go_grown) _) (Nat.le_refl _))).mono ?_
    rintro e w5 ⟨rfl, hb5⟩
    have P := Lib.hid (((P.out).below (B := w4.heap.size) (by first | exact Below.refl _ _ | (go_grown; done) | exact bdrewN (by go_grown) _) (Nat.le_refl _)).below hb5 (Nat.le_refl _))
    obtain ⟨B5, hz5, q5, s5, t5, x5, y5, z5⟩ := bkeep (w := w3) [w3.heap.size, w3.heap.size + 1, w4.heap.size] (by first | (simp; done) | (simp; omega)) (by first | (go_grown; done) | exact bdrewN (by go_grown) _) hb5; (try simp at hz5); clear hb5
    go_wp2_with fail
    refine (implTurnDepth_any _ _ _ _ _ _ _ _ _ _ _ _ _ (P.out.below (B := w5.heap.size) (by first | exact Below.refl _ _ | (go_grown; done) | exact bdrewN (by go_grown) _) (Nat.le_refl _))).mono ?_
    rintro e w6 ⟨rfl, hb6⟩
    have P := Lib.hid (((P.out).below (B := w5.heap.size) (by first | exact Below.refl _ _ | (go_grown; done) | exact bdrewN (by go_grown) _) (Nat.le_refl _)).below hb6 (Nat.le_refl _))
    obtain ⟨B6, hz6, q6, s6, t6, x6, y6, z6⟩ := bkeep (w := w3) [w3.heap.size, w3.heap.size + 1, w4.heap.size, w5.heap.size] (by first | (simp; done) | (simp; omega)) (by first | (go_grown; done) | exact bdrewN (by go_grown) _) hb6; (try simp at hz6); clear hb6
    go_wp2_with fail
    refine (specTurnDepth_any _ _ _ _ _ _ _ _ _ _ _ _ _ (P.out.below (B := w6.heap.size) (by first | exact Below.refl _ _ | (go_grown; done) | exact bdrewN (by go_grown) _) (Nat.le_refl _))).mono ?_
    rintro e w7 ⟨rfl, hb7⟩
    have P := Lib.hid (((P.out).below (B := w6.heap.size) (by first | exact Below.refl _ _ | (go_grown; done) | exact bdrewN (by go_grown) _) (Nat.le_refl _)).below hb7 (Nat.le_refl _))
    obtain ⟨B7, hz7, q7, s7, t7, x7, y7, z7⟩ := bkeep (w := w3) [w3.heap.size, w3.heap.size + 1, w4.heap.size, w5.heap.size, w6.heap.size] (by first | (simp; done) | (simp; omega)) (by first | (go_grown; done) | exact bdrewN (by go_grown) _) hb7; (try simp at hz7); clear hb7
    go_wp2_with fail
    refine (implPassLayer_any _ _ _ _ _ _ _ _ _ _ _ _ _ (P.out.below (B := w7.heap.size) (by first | exact Below.refl _ _ | (go_grown; done) | exact bdrewN (by go_grown) _) (Nat.le_refl _))).mono ?_
    rintro e w8 ⟨rfl, hb8⟩
    have P := Lib.hid (((P.out).below (B := w7.heap.size) (by first | exact Below.refl _ _ | (go_grown; done) | exact bdrewN (by go_grown) _) (Nat.le_refl _)).below hb8 (Nat.le_refl _))
    obtain ⟨B8, hz8, q8, s8, t8, x8, y8, z8⟩ := bkeep (w := w3) [w3.heap.size, w3.heap.size + 1, w4.heap.size, w5.heap.size, w6.heap.size, w7.heap.size] (by first | (simp; done) | (simp; omega)) (by first | (go_grown; done) | exact bdrewN (by go_grown) _) hb8; (try simp at hz8); clear hb8
    go_wp2_with fail
    refine (specPassLayer_any _ _ _ _ _ _ _ _ _ _ _ _ _ (P.out.below (B := w8.heap.size) (by first | exact Below.refl _ _ | (go_grown; done) | exact bdrewN (by go_grown) _) (Nat.le_refl _))).mono ?_
    rintro e w9 ⟨rfl, hb9⟩
    have P := Lib.hid (((P.out).below (B := w8.heap.size) (by first | exact Below.refl _ _ | (go_grown; done) | exact bdrewN (by go_grown) _) (Nat.le_refl _)).below hb9 (Nat.le_refl _))
    obtain ⟨B9, hz9, q9, s9, t9, x9, y9, z9⟩ := bkeep (w := w3) [w3.heap.size, w3.heap.size + 1, w4.heap.size, w5.heap.size, w6.heap.size, w7.heap.size, w8.heap.size] (by first | (simp; done) | (simp; omega)) (by first | (go_grown; done) | exact bdrewN (by go_grown) _) hb9; (try simp at hz9); clear hb9
    by_cases ho : vaE 2 ts ls src co si hy l ab = 0
    · obtain ⟨r, l0, l1, d0_, d1_, d2_⟩ := turnDepth_in ho
      have rs0 := r.s0; have rs1 := r.s1; have rl0 := r.l0; have rl1 := r.l1; have rl2 := r.l2; have rl3 := r.l3; have rc0 := r.c0; have rc1 := r.c1; have rh1 := r.h1
      obtain ⟨m, rfl⟩ := Int.eq_ofNat_of_zero_le l0
      have kk : ((m + 1 : Nat) : Int) = (m : Int) + 1 := by omega
      have u0 := r.dp m (by omega) (by omega); have u1 := r.dp ((m : Int) + 1) (by omega) (by omega)
      obtain ⟨b1, o1, rfl, hb1, q1_⟩ := P.out.1.spd (by omega)
      obtain ⟨b2, o2, rfl, hb2, q2_⟩ := P.out.2.spd (by omega)
      clear q1_ q2_
      obtain ⟨zl, hzl⟩ : ∃ x, tLo ts ls src co si hy m ab = x := ⟨_, rfl⟩
      obtain ⟨zh, hzh⟩ : ∃ x, tHi ts ls src co si hy m ab = x := ⟨_, rfl⟩
      rw [hzl] at d0_ d2_; rw [hzh] at d1_ d2_
      by_cases hc : trC ts ls src co si hy m ab = 0
      · obtain ⟨p1, p2, p3, p4, p5, p6, p7⟩ := turnings_ok hc
        obtain ⟨xl, hxl⟩ : ∃ x, trLo ts ls src co si hy m ab = x := ⟨_, rfl⟩
        obtain ⟨xh, hxh⟩ : ∃ x, trHi ts ls src co si hy m ab = x := ⟨_, rfl⟩
        rw [hxl] at p2 p7; rw [hxh] at p3
        go_wp2_with fail
        refine genS (S := fun w' => Below w3.heap.size w3 w' ∧ w3.heap.size < w'.heap.size ∧ w3.heap.size + 1 < w'.heap.size ∧ w6.heap.size < w'.heap.size ∧ w4.heap.size < w'.heap.size ∧ w8.heap.size < w'.heap.size ∧ w'.cell? ⟨w3.heap.size, 0, none⟩ = some (.slice (some ⟨b1, o1, none⟩) (List.length ts) c1) ∧ w'.cell? ⟨w3.heap.size, 1, none⟩ = some (.slice (some ⟨b2, o2, none⟩) (List.length ls) c2) ∧ w'.cell? ⟨w3.heap.size + 1, 0, none⟩ = some (.int .i64 co) ∧ w'.cell? ⟨w3.heap.size + 1, 1, none⟩ = some (.int .i64 si) ∧ w'.cell? ⟨w3.heap.size + 1, 2, none⟩ = some (.int .i64 hy) ∧ w'.cell? ⟨w6.heap.size, 0, none⟩ = some (.int .i64 zl) ∧ w'.cell? ⟨w6.heap.size, 1, none⟩ = some (.int .i64 zh) ∧ w'.cell? ⟨w4.heap.size, 0, none⟩ = some (.int .i64 xl) ∧ w'.cell? ⟨w4.heap.size, 1, none⟩ = some (.int .i64 xh) ∧ w'.cell? ⟨w8.heap.size, 0, none⟩ = some (.int .i64 xl) ∧ w'.cell? ⟨w8.heap.size, 1, none⟩ = some (.int .i64 xh) ∧ ProfAt w' (some ⟨b1, o1, none⟩) c1 (some ⟨b2, o2, none⟩) c2 ts ls) ⟨(by first | exact B9 | exact bdrewN B9 _ | exact bdrewN (bdrewN B9 _) _ | (go_grown; done) | (go_grown <;> exact bdrewN B9 _)), by first | omega | (simp; done) | (simp; omega), by first | omega | (simp; done) | (simp; omega), by first | omega | (simp; done) | (simp; omega), by first | omega | (simp; done) | (simp; omega), by first | omega | (simp; done) | (simp; omega), by simp [*, go_sem], by simp [*, go_sem], by simp [*, go_sem], by simp [*, go_sem], by simp [*, go_sem], by simp [*, go_sem], by simp [*, go_sem], by simp [*, go_sem], by simp [*, go_sem], by simp [*, go_sem], by simp [*, go_sem], (P.out).below (B := w9.heap.size) (by first | exact Below.refl _ _ | exact bdrewN (Below.refl _ _) _ | exact bdrewN (bdrewN (Below.refl _ _) _) _ | (go_grown; done) | exact bdrewN (by go_grown) _) (Nat.le_refl _)⟩ ?_
        clear q4 s4 t4 x4 y4 z4 hz4 q5 s5 t5 x5 y5 z5 hz5 q6 s6 t6 x6 y6 z6 hz6 q7 s7 t7 x7 y7 z7 hz7 q8 s8 t8 x8 y8 z8 hz8 q9 s9 t9 x9 y9 z9 hz9 hb1 hb2
        rintro w10 ⟨B10, lt10_0, lt10_1, lt10_2, lt10_3, lt10_4, c10_0, c10_1, c10_2, c10_3, c10_4, c10_5, c10_6, c10_7, c10_8, c10_9, c10_10, rr_P⟩
        have P := Lib.hid rr_P; clear rr_P
        obtain ⟨b1', o1', e1_, hb1, q1⟩ := P.out.1.spd (by omega)
        simp only [Option.some.injEq, Addr.mk.injEq, and_true] at e1_
        obtain ⟨rfl, rfl⟩ := e1_
        obtain ⟨b2', o2', e2_, hb2, q2⟩ := P.out.2.spd (by omega)
        simp only [Option.some.injEq, Addr.mk.injEq, and_true] at e2_
        obtain ⟨rfl, rfl⟩ := e2_
        have d0 := q1 m (by omega); have d1 := q1 (m + 1) (by omega)
        rw [kk] at d1
        generalize spd ts m = y0 at *
        generalize spd ts ((m : Int) + 1) = y1 at *
        have mm0 : (0 : Int) ≤ m := by omega
        have mm1 : (m : Int) < ts.length := by omega
        have mm2 : (0 : Int) ≤ (m : Int) + 1 := by omega
        have mm3 : (m : Int) + 1 < ts.length := by omega
        have mm4 : ((m : Int) + 1).toNat = m + 1 := by omega
        clear q1 q2 r kk l0 l1
        have W0 : IntKind.i64.wrap ((m : Int) + 1) = (m : Int) + 1 := IntWalk.i64_in _ (by omega)
        go_quiet (fail)
        clear W0
        go_wp2_with fail
        refine (implArcRadius_any _ _ _ _ _ _ _ _ _ _ _ _ (P.out.below (B := w10.heap.size) (by first | exact Below.refl _ _ | (go_grown; done) | exact bdrewN (by go_grown) _) (Nat.le_refl _))).mono ?_
        rintro e w11 ⟨rfl, hb11⟩
        have P := Lib.hid (((P.out).below (B := w10.heap.size) (by first | exact Below.refl _ _ | (go_grown; done) | exact bdrewN (by go_grown) _) (Nat.le_refl _)).below hb11 (Nat.le_refl _))
        obtain ⟨B11, hz11, q11, s11, t11, x11, y11, z11⟩ := bkeep (w := w3) [w3.heap.size, w3.heap.size + 1, w4.heap.size, w8.heap.size] (by first | (simp; done) | (simp; omega)) (by first | (go_grown; done) | exact bdrewN (by go_grown) _) hb11; (try simp at hz11); clear hb11
        obtain ⟨ah, hah⟩ : ∃ x, arHi ts ls src co si hy m = x := ⟨_, rfl⟩
        rw [hah] at p5 p6 p7
        rcases p7 with p7 | ⟨p7, p8⟩
        · go_wp2
          go_ret
          exact ⟨ret_bool (by first | (simp; done) | (simp; omega)), B3.out.trans (Below.mono (show Below w3.heap.size w3 _ by first | exact B11 | (go_grown; done) | exact bdrewN B11 _ | exact bdrewN (by go_grown) _ | (go_grown <;> exact bdrewN B11 _)) B3.out.size)⟩
        · go_wp2
          go_ret
          exact ⟨ret_bool (by first | (simp; done) | (simp; omega)), B3.out.trans (Below.mono (show Below w3.heap.size w3 _ by first | exact B11 | (go_grown; done) | exact bdrewN B11 _ | exact bdrewN (by go_grown) _ | (go_grown <;> exact bdrewN B11 _)) B3.out.size)⟩
      · have hc2 : (trC ts ls src co si hy m ab != 0) = true := by simpa using hc
        go_wp2_with fail
        refine genS (S := fun w' => Below w3.heap.size w3 w' ∧ w3.heap.size < w'.heap.size ∧ w3.heap.size + 1 < w'.heap.size ∧ w6.heap.size < w'.heap.size ∧ w'.cell? ⟨w3.heap.size, 0, none⟩ = some (.slice (some ⟨b1, o1, none⟩) (List.length ts) c1) ∧ w'.cell? ⟨w3.heap.size, 1, none⟩ = some (.slice (some ⟨b2, o2, none⟩) (List.length ls) c2) ∧ w'.cell? ⟨w3.heap.size + 1, 0, none⟩ = some (.int .i64 co) ∧ w'.cell? ⟨w3.heap.size + 1, 1, none⟩ = some (.int .i64 si) ∧ w'.cell? ⟨w3.heap.size + 1, 2, none⟩ = some (.int .i64 hy) ∧ w'.cell? ⟨w6.heap.size, 0, none⟩ = some (.int .i64 zl) ∧ w'.cell? ⟨w6.heap.size, 1, none⟩ = some (.int .i64 zh) ∧ ProfAt w' (some ⟨b1, o1, none⟩) c1 (some ⟨b2, o2, none⟩) c2 ts ls) ⟨(by first | exact B9 | exact bdrewN B9 _ | exact bdrewN (bdrewN B9 _) _ | (go_grown; done) | (go_grown <;> exact bdrewN B9 _)), by first | omega | (simp; done) | (simp; omega), by first | omega | (simp; done) | (simp; omega), by first | omega | (simp; done) | (simp; omega), by simp [*, go_sem], by simp [*, go_sem], by simp [*, go_sem], by simp [*, go_sem], by simp [*, go_sem], by simp [*, go_sem], by simp [*, go_sem], (P.out).below (B := w9.heap.size) (by first | exact Below.refl _ _ | exact bdrewN (Below.refl _ _) _ | exact bdrewN (bdrewN (Below.refl _ _) _) _ | (go_grown; done) | exact bdrewN (by go_grown) _) (Nat.le_refl _)⟩ ?_
        clear q4 s4 t4 x4 y4 z4 hz4 q5 s5 t5 x5 y5 z5 hz5 q6 s6 t6 x6 y6 z6 hz6 q7 s7 t7 x7 y7 z7 hz7 q8 s8 t8 x8 y8 z8 hz8 q9 s9 t9 x9 y9 z9 hz9 hb1 hb2
        rintro w10 ⟨B10, lt10_0, lt10_1, lt10_2, c10_0, c10_1, c10_2, c10_3, c10_4, c10_5, c10_6, rr_P⟩
        have P := Lib.hid rr_P; clear rr_P
        obtain ⟨b1', o1', e1_, hb1, q1⟩ := P.out.1.spd (by omega)
        simp only [Option.some.injEq, Addr.mk.injEq, and_true] at e1_
        obtain ⟨rfl, rfl⟩ := e1_
        obtain ⟨b2', o2', e2_, hb2, q2⟩ := P.out.2.spd (by omega)
        simp only [Option.some.injEq, Addr.mk.injEq, and_true] at e2_
        obtain ⟨rfl, rfl⟩ := e2_
        have d0 := q1 m (by omega); have d1 := q1 (m + 1) (by omega)
        rw [kk] at d1
        generalize spd ts m = y0 at *
        generalize spd ts ((m : Int) + 1) = y1 at *
        have mm0 : (0 : Int) ≤ m := by omega
        have mm1 : (m : Int) < ts.length := by omega
        have mm2 : (0 : Int) ≤ (m : Int) + 1 := by omega
        have mm3 : (m : Int) + 1 < ts.length := by omega
        have mm4 : ((m : Int) + 1).toNat = m + 1 := by omega
        clear q1 q2 r kk l0 l1
        have W0 : IntKind.i64.wrap ((m : Int) + 1) = (m : Int) + 1 := IntWalk.i64_in _ (by omega)
        go_quiet (fail)
        clear W0
        go_wp2
        go_ret
        exact ⟨rfl, B3.out.trans (Below.mono (show Below w3.heap.size w3 _ by first | exact B10 | (go_grown; done) | exact bdrewN B10 _ | exact bdrewN (bdrewN B10 _) _ | exact bdrewN (by go_grown) _ | (go_grown <;> exact bdrewN B10 _)) B3.out.size)⟩
    · have e1 := (tr_bad ho).2.2
      have e2 : (vaE 2 ts ls src co si hy l ab == 0) = false := beq_eq_false_iff_ne.2 ho
      have e3 : (vaE 2 ts ls src co si hy l ab != 0) = true := by simpa using ho
      go_wp2_with fail
      go_quiet (fail)
      go_wp2
      go_ret
      exact ⟨rfl, B3.out.trans (Below.mono (show Below w3.heap.size w3 _ by first | exact B9 | (go_grown; done) | exact bdrewN B9 _ | exact bdrewN (bdrewN B9 _) _ | exact bdrewN (by go_grown) _ | (go_grown <;> exact bdrewN B9 _)) B3.out.size)⟩
end Go.Proofs.Ytmgmhaikehjddaa
