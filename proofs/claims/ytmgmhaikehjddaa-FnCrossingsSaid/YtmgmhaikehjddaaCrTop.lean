/- The law of FnCrossings: a ray goes not less far through a layer than a steeper one, and a layer that it crosses it crosses from both sides. -/
import Derived.Test.YtmgmhaikehjddaaDraw06
import Derived.Test.YtmgmhaikehjddaaCrOk
import Derived.Test.YtmgmhaikehjddaaVerd
import Derived.Test.YtmgmhaikehjddaaBig
import Derived.Deep.QuietTactic
import Derived.BigQuiet
namespace Go.Proofs.Ytmgmhaikehjddaa
set_option linter.unusedSimpArgs false
set_option linter.unusedVariables false
open Go.RowKit

set_option maxRecDepth 100000 in
set_option maxHeartbeats 8000000 in
theorem lawCrossings_any (A : Option Addr) (c : Nat) (xs : List Int) (w : World) (h : BytesAt w A c xs) :
    Calls Try.prog 5 #[.slice A xs.length c] w fun e w' => e = .returned (.bool true) ∧ Below w.heap.size w w' := by
  have hn := Nat.le_trans h.1 h.2.1
  have H := Lib.hid h; clear h
  by_cases hbig : (4096 : Int) < xs.length
  · go_enter Try.func5, Try.ntmps5
    go_wp2_with (go_at_call 14; refine (big_any _ _ _ _ hn).mono ?_; rintro e w' ⟨rfl, rfl⟩)
    go_ret
    exact ⟨rfl, Below.refl _ _⟩
  · go_enter Try.func5, Try.ntmps5
    go_wp2_with (go_at_call 14; refine (big_any _ _ _ _ hn).mono ?_; rintro e w' ⟨rfl, rfl⟩)
    refine (drawCrossRange_any A c xs _ H.out).mono ?_
    rintro e w3 ⟨⟨A1, c1, A2, c2, ts, ls, src, co, si, hy, l, rfl, rp⟩, hb3⟩
    have P := Lib.hid rp.at; clear rp
    have HX := Lib.hid (H.out.below hb3 (Nat.le_refl _))
    have B3 := Lib.hid hb3; clear hb3
    go_wp2_with fail
    refine (implCrossRange_any _ _ _ _ _ _ _ _ _ _ _ _ (P.out.below (B := w3.heap.size) (by first | exact Below.refl _ _ | (go_grown; done) | exact bdrewN (by go_grown) _) (Nat.le_refl _))).mono ?_
    rintro e w4 ⟨rfl, hb4⟩
    have P := Lib.hid (((P.out).below (B := w3.heap.size) (by first | exact Below.refl _ _ | (go_grown; done) | exact bdrewN (by go_grown) _) (Nat.le_refl _)).below hb4 (Nat.le_refl _))
    have HX := Lib.hid (((HX.out).below (B := w3.heap.size) (by first | exact Below.refl _ _ | (go_grown; done) | exact bdrewN (by go_grown) _) (Nat.le_refl _)).below hb4 (Nat.le_refl _))
    obtain ⟨B4, hz4, q4, s4, t4, x4, y4, z4⟩ := bkeep (w := w3) [w3.heap.size, w3.heap.size + 1] (by first | (simp; done) | (simp; omega)) (by first | (go_grown; done) | exact bdrewN (by go_grown) _) hb4; (try simp at hz4); clear hb4
    go_wp2_with fail
    refine (specCrossRange_any _ _ _ _ _ _ _ _ _ _ _ _ (P.out.below (B := w4.heap.size) (by first | exact Below.refl _ _ | (go_grown; done) | exact bdrewN (by go_grown) _) (Nat.le_refl _))).mono ?_
    rintro e w5 ⟨rfl, hb5⟩
    have P := Lib.hid (((P.out).below (B := w4.heap.size) (by first | exact Below.refl _ _ | (go_grown; done) | exact bdrewN (by go_grown) _) (Nat.le_refl _)).below hb5 (Nat.le_refl _))
    have HX := Lib.hid (((HX.out).below (B := w4.heap.size) (by first | exact Below.refl _ _ | (go_grown; done) | exact bdrewN (by go_grown) _) (Nat.le_refl _)).below hb5 (Nat.le_refl _))
    obtain ⟨B5, hz5, q5, s5, t5, x5, y5, z5⟩ := bkeep (w := w3) [w3.heap.size, w3.heap.size + 1, w4.heap.size] (by first | (simp; done) | (simp; omega)) (by first | (go_grown; done) | exact bdrewN (by go_grown) _) hb5; (try simp at hz5); clear hb5
    go_wp2_with fail
    refine (drawLayerVerdict_any _ _ _ _ (HX.out.below (B := w5.heap.size) (by first | exact Below.refl _ _ | (go_grown; done) | exact bdrewN (by go_grown) _) (Nat.le_refl _))).mono ?_
    rintro e w6 ⟨⟨A3, c3, A4, c4, us, ms, so, ec, es, eh, k, ab, rfl, rq⟩, hb6⟩
    have P := Lib.hid (((P.out).below (B := w5.heap.size) (by first | exact Below.refl _ _ | (go_grown; done) | exact bdrewN (by go_grown) _) (Nat.le_refl _)).below hb6 (Nat.le_refl _))
    have HX := Lib.hid (((HX.out).below (B := w5.heap.size) (by first | exact Below.refl _ _ | (go_grown; done) | exact bdrewN (by go_grown) _) (Nat.le_refl _)).below hb6 (Nat.le_refl _))
    have Q := Lib.hid (rq.at)
    obtain ⟨B6, hz6, q6, s6, t6, x6, y6, z6⟩ := bkeep (w := w3) [w3.heap.size, w3.heap.size + 1, w4.heap.size, w5.heap.size] (by first | (simp; done) | (simp; omega)) (by first | (go_grown; done) | exact bdrewN (by go_grown) _) hb6; (try simp at hz6); clear hb6
    have ny6_0_0 : w3.heap.size < w6.heap.size + 1 := by omega
    have ny6_0_1 : w3.heap.size + 1 < w6.heap.size + 1 := by omega
    have ny6_0_2 : w4.heap.size < w6.heap.size + 1 := by omega
    have ny6_0_3 : w5.heap.size < w6.heap.size + 1 := by omega
    clear rq
    go_wp2_with fail
    refine (implLayerVerdict_any _ _ _ _ _ _ _ _ _ _ _ _ _ (Q.out.below (B := w6.heap.size) (by first | exact Below.refl _ _ | (go_grown; done) | exact bdrewN (by go_grown) _) (Nat.le_refl _))).mono ?_
    rintro e w7 ⟨rfl, hb7⟩
    have P := Lib.hid (((P.out).below (B := w6.heap.size) (by first | exact Below.refl _ _ | (go_grown; done) | exact bdrewN (by go_grown) _) (Nat.le_refl _)).below hb7 (Nat.le_refl _))
    have Q := Lib.hid (((Q.out).below (B := w6.heap.size) (by first | exact Below.refl _ _ | (go_grown; done) | exact bdrewN (by go_grown) _) (Nat.le_refl _)).below hb7 (Nat.le_refl _))
    obtain ⟨B7, hz7, q7, s7, t7, x7, y7, z7⟩ := bkeep (w := w3) [w3.heap.size, w3.heap.size + 1, w4.heap.size, w5.heap.size, w6.heap.size, w6.heap.size + 1] (by first | (simp; done) | (simp; omega)) (by first | (go_grown; done) | exact bdrewN (by go_grown) _) hb7; (try simp at hz7); clear hb7
    go_wp2_with fail
    refine (specLayerVerdict_any _ _ _ _ _ _ _ _ _ _ _ _ _ (Q.out.below (B := w7.heap.size) (by first | exact Below.refl _ _ | (go_grown; done) | exact bdrewN (by go_grown) _) (Nat.le_refl _))).mono ?_
    rintro e w8 ⟨rfl, hb8⟩
    have P := Lib.hid (((P.out).below (B := w7.heap.size) (by first | exact Below.refl _ _ | (go_grown; done) | exact bdrewN (by go_grown) _) (Nat.le_refl _)).below hb8 (Nat.le_refl _))
    have Q := Lib.hid (((Q.out).below (B := w7.heap.size) (by first | exact Below.refl _ _ | (go_grown; done) | exact bdrewN (by go_grown) _) (Nat.le_refl _)).below hb8 (Nat.le_refl _))
    obtain ⟨B8, hz8, q8, s8, t8, x8, y8, z8⟩ := bkeep (w := w3) [w3.heap.size, w3.heap.size + 1, w4.heap.size, w5.heap.size, w6.heap.size, w6.heap.size + 1] (by first | (simp; done) | (simp; omega)) (by first | (go_grown; done) | exact bdrewN (by go_grown) _) hb8; (try simp at hz8); clear hb8
    by_cases h1 : arcE us ms so ec es eh k = 0
    · have hf := lv_flip us ms so ec es eh k ab
      rcases Bool.eq_false_or_eq_true (lvI us ms so ec es eh k ab == 1) with hv | hv
      · rw [hv] at hf
        go_wp2_with fail
        refine (implLayerVerdict_any _ _ _ _ _ _ _ _ _ _ _ (!ab) _ (Q.out.below (B := w8.heap.size) (by first | exact Below.refl _ _ | (go_grown; done) | exact bdrewN (by go_grown) _) (Nat.le_refl _))).mono ?_
        rintro e w9 ⟨rfl, hb9⟩
        have P := Lib.hid (((P.out).below (B := w8.heap.size) (by first | exact Below.refl _ _ | (go_grown; done) | exact bdrewN (by go_grown) _) (Nat.le_refl _)).below hb9 (Nat.le_refl _))
        have Q := Lib.hid (((Q.out).below (B := w8.heap.size) (by first | exact Below.refl _ _ | (go_grown; done) | exact bdrewN (by go_grown) _) (Nat.le_refl _)).below hb9 (Nat.le_refl _))
        obtain ⟨B9, hz9, q9, s9, t9, x9, y9, z9⟩ := bkeep (w := w3) [w3.heap.size, w3.heap.size + 1, w4.heap.size, w5.heap.size, w6.heap.size, w6.heap.size + 1] (by first | (simp; done) | (simp; omega)) (by first | (go_grown; done) | exact bdrewN (by go_grown) _) hb9; (try simp at hz9); clear hb9
        by_cases hc : crgC ts ls src co si hy l = 0
        · obtain ⟨i0, i1, i2, i3⟩ := crossings_ok hc
          obtain ⟨lo, hlo⟩ : ∃ x, crgLo ts ls src co si hy l = x := ⟨_, rfl⟩
          obtain ⟨hi, hhi⟩ : ∃ x, crgHi ts ls src co si hy l = x := ⟨_, rfl⟩
          rw [hlo] at i0 i1; rw [hhi] at i1 i3
          go_wp2_with fail
          refine (implCrossRange_any _ _ _ _ _ _ _ 9 40 41 _ _ (P.out.below (B := w9.heap.size) (by first | exact Below.refl _ _ | (go_grown; done) | exact bdrewN (by go_grown) _) (Nat.le_refl _))).mono ?_
          rintro e w10 ⟨rfl, hb10⟩
          have P := Lib.hid (((P.out).below (B := w9.heap.size) (by first | exact Below.refl _ _ | (go_grown; done) | exact bdrewN (by go_grown) _) (Nat.le_refl _)).below hb10 (Nat.le_refl _))
          obtain ⟨B10, hz10, q10, s10, t10, x10, y10, z10⟩ := bkeep (w := w3) [w3.heap.size, w3.heap.size + 1, w4.heap.size, w9.heap.size] (by first | (simp; done) | (simp; omega)) (by first | (go_grown; done) | exact bdrewN (by go_grown) _) hb10; (try simp at hz10); clear hb10
          go_wp2_with fail
          refine (implCompare_any _ _ _ _ _ _ _).mono ?_
          rintro e w11 ⟨rfl, hb11⟩
          have P := Lib.hid (((P.out).below (B := w10.heap.size) (by first | exact Below.refl _ _ | (go_grown; done) | exact bdrewN (by go_grown) _) (Nat.le_refl _)).below hb11 (Nat.le_refl _))
          obtain ⟨B11, hz11, q11, s11, t11, x11, y11, z11⟩ := bkeep (w := w3) [w3.heap.size, w3.heap.size + 1, w4.heap.size, w9.heap.size, w10.heap.size] (by first | (simp; done) | (simp; omega)) (by first | (go_grown; done) | exact bdrewN (by go_grown) _) hb11; (try simp at hz11); clear hb11
          rcases i3 with g | ⟨g | g, i4, i5⟩
          · go_wp2
            go_ret
            exact ⟨ret_bool (by first | (simp; done) | (simp; omega)), B3.out.trans (Below.mono (show Below w3.heap.size w3 _ by first | exact B11 | (go_grown; done) | exact bdrewN B11 _ | (go_grown <;> exact bdrewN B11 _)) B3.out.size)⟩
          · go_wp2
            go_ret
            exact ⟨ret_bool (by first | (simp; done) | (simp; omega)), B3.out.trans (Below.mono (show Below w3.heap.size w3 _ by first | exact B11 | (go_grown; done) | exact bdrewN B11 _ | (go_grown <;> exact bdrewN B11 _)) B3.out.size)⟩
          · go_wp2
            go_ret
            exact ⟨ret_bool (by first | (simp; done) | (simp; omega)), B3.out.trans (Below.mono (show Below w3.heap.size w3 _ by first | exact B11 | (go_grown; done) | exact bdrewN B11 _ | (go_grown <;> exact bdrewN B11 _)) B3.out.size)⟩
        · have hc2 : (crgC ts ls src co si hy l != 0) = true := by simpa using hc
          go_wp2
          go_ret
          exact ⟨rfl, B3.out.trans (Below.mono (show Below w3.heap.size w3 _ by first | exact B9 | (go_grown; done) | exact bdrewN B9 _ | (go_grown <;> exact bdrewN B9 _)) B3.out.size)⟩
      · rw [hv] at hf
        go_wp2_with fail
        refine (implLayerVerdict_any _ _ _ _ _ _ _ _ _ _ _ (!ab) _ (Q.out.below (B := w8.heap.size) (by first | exact Below.refl _ _ | (go_grown; done) | exact bdrewN (by go_grown) _) (Nat.le_refl _))).mono ?_
        rintro e w9 ⟨rfl, hb9⟩
        have P := Lib.hid (((P.out).below (B := w8.heap.size) (by first | exact Below.refl _ _ | (go_grown; done) | exact bdrewN (by go_grown) _) (Nat.le_refl _)).below hb9 (Nat.le_refl _))
        have Q := Lib.hid (((Q.out).below (B := w8.heap.size) (by first | exact Below.refl _ _ | (go_grown; done) | exact bdrewN (by go_grown) _) (Nat.le_refl _)).below hb9 (Nat.le_refl _))
        obtain ⟨B9, hz9, q9, s9, t9, x9, y9, z9⟩ := bkeep (w := w3) [w3.heap.size, w3.heap.size + 1, w4.heap.size, w5.heap.size, w6.heap.size, w6.heap.size + 1] (by first | (simp; done) | (simp; omega)) (by first | (go_grown; done) | exact bdrewN (by go_grown) _) hb9; (try simp at hz9); clear hb9
        by_cases hc : crgC ts ls src co si hy l = 0
        · obtain ⟨i0, i1, i2, i3⟩ := crossings_ok hc
          obtain ⟨lo, hlo⟩ : ∃ x, crgLo ts ls src co si hy l = x := ⟨_, rfl⟩
          obtain ⟨hi, hhi⟩ : ∃ x, crgHi ts ls src co si hy l = x := ⟨_, rfl⟩
          rw [hlo] at i0 i1; rw [hhi] at i1 i3
          go_wp2_with fail
          refine (implCrossRange_any _ _ _ _ _ _ _ 9 40 41 _ _ (P.out.below (B := w9.heap.size) (by first | exact Below.refl _ _ | (go_grown; done) | exact bdrewN (by go_grown) _) (Nat.le_refl _))).mono ?_
          rintro e w10 ⟨rfl, hb10⟩
          have P := Lib.hid (((P.out).below (B := w9.heap.size) (by first | exact Below.refl _ _ | (go_grown; done) | exact bdrewN (by go_grown) _) (Nat.le_refl _)).below hb10 (Nat.le_refl _))
          obtain ⟨B10, hz10, q10, s10, t10, x10, y10, z10⟩ := bkeep (w := w3) [w3.heap.size, w3.heap.size + 1, w4.heap.size, w9.heap.size] (by first | (simp; done) | (simp; omega)) (by first | (go_grown; done) | exact bdrewN (by go_grown) _) hb10; (try simp at hz10); clear hb10
          go_wp2_with fail
          refine (implCompare_any _ _ _ _ _ _ _).mono ?_
          rintro e w11 ⟨rfl, hb11⟩
          have P := Lib.hid (((P.out).below (B := w10.heap.size) (by first | exact Below.refl _ _ | (go_grown; done) | exact bdrewN (by go_grown) _) (Nat.le_refl _)).below hb11 (Nat.le_refl _))
          obtain ⟨B11, hz11, q11, s11, t11, x11, y11, z11⟩ := bkeep (w := w3) [w3.heap.size, w3.heap.size + 1, w4.heap.size, w9.heap.size, w10.heap.size] (by first | (simp; done) | (simp; omega)) (by first | (go_grown; done) | exact bdrewN (by go_grown) _) hb11; (try simp at hz11); clear hb11
          rcases i3 with g | ⟨g | g, i4, i5⟩
          · go_wp2
            go_ret
            exact ⟨ret_bool (by first | (simp; done) | (simp; omega)), B3.out.trans (Below.mono (show Below w3.heap.size w3 _ by first | exact B11 | (go_grown; done) | exact bdrewN B11 _ | (go_grown <;> exact bdrewN B11 _)) B3.out.size)⟩
          · go_wp2
            go_ret
            exact ⟨ret_bool (by first | (simp; done) | (simp; omega)), B3.out.trans (Below.mono (show Below w3.heap.size w3 _ by first | exact B11 | (go_grown; done) | exact bdrewN B11 _ | (go_grown <;> exact bdrewN B11 _)) B3.out.size)⟩
          · go_wp2
            go_ret
            exact ⟨ret_bool (by first | (simp; done) | (simp; omega)), B3.out.trans (Below.mono (show Below w3.heap.size w3 _ by first | exact B11 | (go_grown; done) | exact bdrewN B11 _ | (go_grown <;> exact bdrewN B11 _)) B3.out.size)⟩
        · have hc2 : (crgC ts ls src co si hy l != 0) = true := by simpa using hc
          go_wp2
          go_ret
          exact ⟨rfl, B3.out.trans (Below.mono (show Below w3.heap.size w3 _ by first | exact B9 | (go_grown; done) | exact bdrewN B9 _ | (go_grown <;> exact bdrewN B9 _)) B3.out.size)⟩
    · have h2 : (arcE us ms so ec es eh k == 0) = false := beq_eq_false_iff_ne.2 h1
      by_cases hc : crgC ts ls src co si hy l = 0
      · obtain ⟨i0, i1, i2, i3⟩ := crossings_ok hc
        obtain ⟨lo, hlo⟩ : ∃ x, crgLo ts ls src co si hy l = x := ⟨_, rfl⟩
        obtain ⟨hi, hhi⟩ : ∃ x, crgHi ts ls src co si hy l = x := ⟨_, rfl⟩
        rw [hlo] at i0 i1; rw [hhi] at i1 i3
        go_wp2_with fail
        refine (implCrossRange_any _ _ _ _ _ _ _ 9 40 41 _ _ (P.out.below (B := w8.heap.size) (by first | exact Below.refl _ _ | (go_grown; done) | exact bdrewN (by go_grown) _) (Nat.le_refl _))).mono ?_
        rintro e w9 ⟨rfl, hb9⟩
        have P := Lib.hid (((P.out).below (B := w8.heap.size) (by first | exact Below.refl _ _ | (go_grown; done) | exact bdrewN (by go_grown) _) (Nat.le_refl _)).below hb9 (Nat.le_refl _))
        obtain ⟨B9, hz9, q9, s9, t9, x9, y9, z9⟩ := bkeep (w := w3) [w3.heap.size, w3.heap.size + 1, w4.heap.size, w8.heap.size] (by first | (simp; done) | (simp; omega)) (by first | (go_grown; done) | exact bdrewN (by go_grown) _) hb9; (try simp at hz9); clear hb9
        go_wp2_with fail
        refine (implCompare_any _ _ _ _ _ _ _).mono ?_
        rintro e w10 ⟨rfl, hb10⟩
        have P := Lib.hid (((P.out).below (B := w9.heap.size) (by first | exact Below.refl _ _ | (go_grown; done) | exact bdrewN (by go_grown) _) (Nat.le_refl _)).below hb10 (Nat.le_refl _))
        obtain ⟨B10, hz10, q10, s10, t10, x10, y10, z10⟩ := bkeep (w := w3) [w3.heap.size, w3.heap.size + 1, w4.heap.size, w8.heap.size, w9.heap.size] (by first | (simp; done) | (simp; omega)) (by first | (go_grown; done) | exact bdrewN (by go_grown) _) hb10; (try simp at hz10); clear hb10
        rcases i3 with g | ⟨g | g, i4, i5⟩
        · go_wp2
          go_ret
          exact ⟨ret_bool (by first | (simp; done) | (simp; omega)), B3.out.trans (Below.mono (show Below w3.heap.size w3 _ by first | exact B10 | (go_grown; done) | exact bdrewN B10 _ | (go_grown <;> exact bdrewN B10 _)) B3.out.size)⟩
        · go_wp2
          go_ret
          exact ⟨ret_bool (by first | (simp; done) | (simp; omega)), B3.out.trans (Below.mono (show Below w3.heap.size w3 _ by first | exact B10 | (go_grown; done) | exact bdrewN B10 _ | (go_grown <;> exact bdrewN B10 _)) B3.out.size)⟩
        · go_wp2
          go_ret
          exact ⟨ret_bool (by first | (simp; done) | (simp; omega)), B3.out.trans (Below.mono (show Below w3.heap.size w3 _ by first | exact B10 | (go_grown; done) | exact bdrewN B10 _ | (go_grown <;> exact bdrewN B10 _)) B3.out.size)⟩
      · have hc2 : (crgC ts ls src co si hy l != 0) = true := by simpa using hc
        go_wp2
        go_ret
        exact ⟨rfl, B3.out.trans (Below.mono (show Below w3.heap.size w3 _ by first | exact B8 | (go_grown; done) | exact bdrewN B8 _ | (go_grown <;> exact bdrewN B8 _)) B3.out.size)⟩
end Go.Proofs.Ytmgmhaikehjddaa
