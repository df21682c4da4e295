/- The law of FnSines: the square of a scaled sine lies between those of its bounds, and a flatter ray crosses no more knots. -/
import Derived.Test.YtkmlcjhlckoajaaDrawCan
import Derived.Test.YtkmlcjhlckoajaaSineAt
import Derived.Test.YtkmlcjhlckoajaaCmp
import Derived.Test.YtkmlcjhlckoajaaDivm
import Derived.Test.YtkmlcjhlckoajaaBig
import Derived.Deep.QuietTactic
import Derived.BigQuiet
namespace Go.Proofs.Ytkmlcjhlckoajaa
set_option linter.unusedSimpArgs false
set_option linter.unusedVariables false
open Go.RowKit

theorem steep_dir : dirB 9 40 41 = true := by unfold dirB inB; decide
theorem rayE_in {ds ss : List Int} {src co si hy k : Int} (h : rayE ds ss src co si hy k = 0) : profB ds ss = true ∧ dirB co si hy = true ∧ inB src 0 ((ds.length : Int) - 1) = true ∧ inB k 0 ((ds.length : Int) - 1) = true := by
  unfold rayE at h
  cases h1 : profB ds ss <;> cases h2 : dirB co si hy <;> cases h3 : inB src 0 ((ds.length : Int) - 1) <;> cases h4 : inB k 0 ((ds.length : Int) - 1) <;> simp [h1, h2, h3, h4] at h
  exact ⟨rfl, rfl, rfl, rfl⟩
theorem rayE_of {ds ss : List Int} {src co si hy k : Int} (h1 : profB ds ss = true) (h2 : dirB co si hy = true) (h3 : inB src 0 ((ds.length : Int) - 1) = true) (h4 : inB k 0 ((ds.length : Int) - 1) = true) : rayE ds ss src co si hy k = 0 := by
  unfold rayE; simp [h1, h2, h3, h4]
/-- a steep ray of the same source crosses every knot -/
theorem steep_ok {ds ss : List Int} {src co si hy k : Int} (h : rayE ds ss src co si hy k = 0) : rayE ds ss src 9 40 41 k = 0 ∧ canB ss src 9 41 k = true ∧ crossI ds ss src 9 40 41 k = true := by
  obtain ⟨h1, h2, h3, h4⟩ := rayE_in h
  have e := rayE_of h1 steep_dir h3 h4
  obtain ⟨p0, p1, p2, p3⟩ := prof_len h1
  have a := inB_bd h3
  have b := inB_bd h4
  have r := rayOk_zero (rayE_of (k := 0) h1 h2 h3 (by simp [inB]; omega))
  have v1 := r.sp src a.1 (by omega)
  have v2 := r.sp k b.1 (by omega)
  have g : canB ss src 9 41 k = true := by
    unfold canB
    exact decide_eq_true (by omega)
  exact ⟨e, g, by unfold crossI; rw [e, g]; rfl⟩

theorem sines_ok {ds ss : List Int} {src co si hy k : Int} (r : RayOk ds ss src co si hy) (k0 : 0 ≤ k) (k1 : k < ss.length) (hc : canB ss src co hy k = true) :
    0 ≤ sinLo ss src co hy k ∧ sinLo ss src co hy k ≤ 2000000000 ∧ sinLo ss src co hy k * sinLo ss src co hy k ≤ sqI ss src co hy k ∧ sqI ss src co hy k ≤ sinHi ss src co hy k * sinHi ss src co hy k ∧ sinHi ss src co hy k - sinLo ss src co hy k ≤ 1 ∧
    sinLo ss src co hy k ≤ sinHi ss src co hy k ∧ sinHi ss src co hy k * sinHi ss src co hy k ≤ 4100000000000000000 ∧ 0 ≤ sinHi ss src co hy k * sinHi ss src co hy k ∧ 0 ≤ sinLo ss src co hy k * sinLo ss src co hy k ∧ 0 ≤ sqI ss src co hy k ∧ sqI ss src co hy k ≤ 2890000000000000000 := by
  obtain ⟨g0, g1⟩ := sqI_range r k0 k1 hc
  have s := rt_spec (n := sqI ss src co hy k) (by omega)
  have u := rtUp_spec (n := sqI ss src co hy k) (by omega)
  have l := rt_le (n := sqI ss src co hy k) (by omega) (by omega)
  change 0 ≤ sinLo ss src co hy k ∧ sinLo ss src co hy k * sinLo ss src co hy k ≤ _ ∧ _ at s
  change sinLo ss src co hy k ≤ sinHi ss src co hy k ∧ sinHi ss src co hy k ≤ sinLo ss src co hy k + 1 ∧ _ ≤ sinHi ss src co hy k * sinHi ss src co hy k at u
  change sinLo ss src co hy k ≤ _ at l
  generalize sinLo ss src co hy k = a at *
  generalize sinHi ss src co hy k = b at *
  have m := Int.mul_le_mul u.2.1 u.2.1 (by omega) (by omega)
  have e : (a + 1) * (a + 1) = a * a + 2 * a + 1 := by rw [Int.add_mul, Int.mul_add]; omega
  have m2 := Int.mul_nonneg (show 0 ≤ b by omega) (show 0 ≤ b by omega)
  have m3 := Int.mul_nonneg s.1 s.1
  exact ⟨s.1, l, s.2.1, u.2.2, by omega, u.1, by omega, m2, m3, by omega, g1⟩
theorem sx_good {ds ss : List Int} {src co si hy k : Int} (h : rayE ds ss src co si hy k = 0) (hc : canB ss src co hy k = true) : siE ds ss src co si hy k = 0 ∧ siLo ds ss src co si hy k = sinLo ss src co hy k ∧ siHi ds ss src co si hy k = sinHi ss src co hy k ∧ crossI ds ss src co si hy k = true := by
  unfold siE siLo siHi crossI; simp [h, hc]
theorem sx_shut {ds ss : List Int} {src co si hy k : Int} (h : rayE ds ss src co si hy k = 0) (hc : canB ss src co hy k = false) : siE ds ss src co si hy k = 5 ∧ crossI ds ss src co si hy k = false := by
  unfold siE crossI; simp [h, hc]
theorem sx_bad {ds ss : List Int} {src co si hy k : Int} (h : rayE ds ss src co si hy k ≠ 0) : siE ds ss src co si hy k = rayE ds ss src co si hy k := by
  unfold siE; rw [if_neg h]

set_option maxRecDepth 100000 in
set_option maxHeartbeats 8000000 in
theorem lawSines_any (A : Option Addr) (c : Nat) (xs : List Int) (w : World) (h : BytesAt w A c xs) :
    Calls Try.prog 6 #[.slice A xs.length c] w fun e w' => e = .returned (.bool true) ∧ Below w.heap.size w w' := by
  have hn := Nat.le_trans h.1 h.2.1
  have H := Lib.hid h; clear h
  by_cases hbig : (4096 : Int) < xs.length
  · go_enter Try.func6, Try.ntmps6
    go_wp2_with (go_at_call 11; refine (big_any _ _ _ _ hn).mono ?_; rintro e w' ⟨rfl, rfl⟩)
    go_ret
    exact ⟨rfl, Below.refl _ _⟩
  · go_enter Try.func6, Try.ntmps6
    go_wp2_with (go_at_call 11; refine (big_any _ _ _ _ hn).mono ?_; rintro e w' ⟨rfl, rfl⟩)
    refine (drawSineAt_any A c xs _ H.out).mono ?_
    rintro e w3 ⟨⟨A1, c1, A2, c2, ts, ls, src, co, si, hy, l, rfl, rp⟩, hb3⟩
    have P := Lib.hid rp.at; clear rp
    have HX := Lib.hid (H.out.below hb3 (Nat.le_refl _))
    have B3 := Lib.hid hb3; clear hb3
    go_wp2_with fail
    refine (implSineAt_any _ _ _ _ _ _ _ _ _ _ _ _ (P.out.below (B := w3.heap.size) (by first | exact Below.refl _ _ | (go_grown; done) | exact bdrewN (by go_grown) _) (Nat.le_refl _))).mono ?_
    rintro e w4 ⟨rfl, hb4⟩
    have P := Lib.hid (((P.out).below (B := w3.heap.size) (by first | exact Below.refl _ _ | (go_grown; done) | exact bdrewN (by go_grown) _) (Nat.le_refl _)).below hb4 (Nat.le_refl _))
    obtain ⟨B4, hz4, q4, s4, t4, x4, y4, z4⟩ := bkeep (w := w3) [w3.heap.size, w3.heap.size + 1] (by first | (simp; done) | (simp; omega)) (by first | (go_grown; done) | exact bdrewN (by go_grown) _) hb4; (try simp at hz4); clear hb4
    go_wp2_with fail
    refine (specSineAt_any _ _ _ _ _ _ _ _ _ _ _ _ (P.out.below (B := w4.heap.size) (by first | exact Below.refl _ _ | (go_grown; done) | exact bdrewN (by go_grown) _) (Nat.le_refl _))).mono ?_
    rintro e w5 ⟨rfl, hb5⟩
    have P := Lib.hid (((P.out).below (B := w4.heap.size) (by first | exact Below.refl _ _ | (go_grown; done) | exact bdrewN (by go_grown) _) (Nat.le_refl _)).below hb5 (Nat.le_refl _))
    obtain ⟨B5, hz5, q5, s5, t5, x5, y5, z5⟩ := bkeep (w := w3) [w3.heap.size, w3.heap.size + 1, w4.heap.size] (by first | (simp; done) | (simp; omega)) (by first | (go_grown; done) | exact bdrewN (by go_grown) _) hb5; (try simp at hz5); clear hb5
    go_wp2_with fail
    refine (implCanCross_any _ _ _ _ _ _ _ _ _ _ _ _ (P.out.below (B := w5.heap.size) (by first | exact Below.refl _ _ | (go_grown; done) | exact bdrewN (by go_grown) _) (Nat.le_refl _))).mono ?_
    rintro e w6 ⟨rfl, hb6⟩
    have P := Lib.hid (((P.out).below (B := w5.heap.size) (by first | exact Below.refl _ _ | (go_grown; done) | exact bdrewN (by go_grown) _) (Nat.le_refl _)).below hb6 (Nat.le_refl _))
    obtain ⟨B6, hz6, q6, s6, t6, x6, y6, z6⟩ := bkeep (w := w3) [w3.heap.size, w3.heap.size + 1, w4.heap.size, w5.heap.size] (by first | (simp; done) | (simp; omega)) (by first | (go_grown; done) | exact bdrewN (by go_grown) _) hb6; (try simp at hz6); clear hb6
    go_wp2_with fail
    refine (specCanCross_any _ _ _ _ _ _ _ _ _ _ _ _ (P.out.below (B := w6.heap.size) (by first | exact Below.refl _ _ | (go_grown; done) | exact bdrewN (by go_grown) _) (Nat.le_refl _))).mono ?_
    rintro e w7 ⟨rfl, hb7⟩
    have P := Lib.hid (((P.out).below (B := w6.heap.size) (by first | exact Below.refl _ _ | (go_grown; done) | exact bdrewN (by go_grown) _) (Nat.le_refl _)).below hb7 (Nat.le_refl _))
    obtain ⟨B7, hz7, q7, s7, t7, x7, y7, z7⟩ := bkeep (w := w3) [w3.heap.size, w3.heap.size + 1, w4.heap.size, w5.heap.size] (by first | (simp; done) | (simp; omega)) (by first | (go_grown; done) | exact bdrewN (by go_grown) _) hb7; (try simp at hz7); clear hb7
    by_cases h0 : rayE ts ls src co si hy l = 0
    · rcases Bool.eq_false_or_eq_true (canB ls src co hy l) with hc | hc
      · obtain ⟨e1, e2, e3, e4⟩ := sx_good h0 hc
        obtain ⟨h1, h2, h3, h4⟩ := rayE_in h0
        have r := rayOk_zero (rayE_of (k := 0) h1 h2 h3 (by have := inB_bd h4; simp [inB]; omega))
        have rs0 := r.s0; have rs1 := r.s1; have rl0 := r.l0; have rl1 := r.l1; have rl2 := r.l2; have rl3 := r.l3; have rc0 := r.c0; have rc1 := r.c1; have rh1 := r.h1
        obtain ⟨l0, l1⟩ := inB_bd h4
        obtain ⟨i0, i1, i2, i3, i4, i5, i6, i7, i8, i9, i10⟩ := sines_ok r l0 (by omega) hc
        obtain ⟨f1, f2, f3⟩ := steep_ok h0
        obtain ⟨g1, g2⟩ := cmp_ok h2 steep_dir
        have v1 := r.part l0 (show l < ls.length by omega); have v2 := r.whole
        have F := Lib.hid (And.intro f1 (And.intro f3 g1)); clear f1 f2 f3 g1 h1 h2 h3 h4
        obtain ⟨m, rfl⟩ := Int.eq_ofNat_of_zero_le l0
        obtain ⟨j, rfl⟩ := Int.eq_ofNat_of_zero_le rs0
        obtain ⟨b1, o1, rfl, hb1, q1_⟩ := P.out.1.spd (by omega)
        obtain ⟨b2, o2, rfl, hb2, q2_⟩ := P.out.2.spd (by omega)
        clear q1_ q2_
        obtain ⟨lo, hlo⟩ : ∃ x, sinLo ls j co hy m = x := ⟨_, rfl⟩
        obtain ⟨hi, hhi⟩ : ∃ x, sinHi ls j co hy m = x := ⟨_, rfl⟩
        rw [hlo] at e2 i0 i1 i2 i4 i5 i8; rw [hhi] at e3 i3 i4 i5 i6 i7
        have W_ := Lib.hid (And.intro hlo hhi); clear hlo hhi
        go_wp2_with fail
        refine genS (S := fun w' => Below w3.heap.size w3 w' ∧ w3.heap.size < w'.heap.size ∧ w3.heap.size + 1 < w'.heap.size ∧ w4.heap.size < w'.heap.size ∧ w'.cell? ⟨w3.heap.size, 0, none⟩ = some (.slice (some ⟨b1, o1, none⟩) (List.length ts) c1) ∧ w'.cell? ⟨w3.heap.size, 1, none⟩ = some (.slice (some ⟨b2, o2, none⟩) (List.length ls) c2) ∧ w'.cell? ⟨w3.heap.size + 1, 0, none⟩ = some (.int .i64 co) ∧ w'.cell? ⟨w3.heap.size + 1, 1, none⟩ = some (.int .i64 si) ∧ w'.cell? ⟨w3.heap.size + 1, 2, none⟩ = some (.int .i64 hy) ∧ w'.cell? ⟨w4.heap.size, 0, none⟩ = some (.int .i64 lo) ∧ w'.cell? ⟨w4.heap.size, 1, none⟩ = some (.int .i64 hi) ∧ ProfAt w' (some ⟨b1, o1, none⟩) c1 (some ⟨b2, o2, none⟩) c2 ts ls) ⟨(by first | exact B7 | exact bdrewN B7 _ | exact bdrewN (bdrewN B7 _) _ | (go_grown; done) | (go_grown <;> exact bdrewN B7 _)), by first | omega | (simp; done) | (simp; omega), by first | omega | (simp; done) | (simp; omega), by first | omega | (simp; done) | (simp; omega), by simp [*, go_sem], by simp [*, go_sem], by simp [*, go_sem], by simp [*, go_sem], by simp [*, go_sem], by simp [*, go_sem], by simp [*, go_sem], (P.out).below (B := w7.heap.size) (by first | exact Below.refl _ _ | exact bdrewN (Below.refl _ _) _ | exact bdrewN (bdrewN (Below.refl _ _) _) _ | (go_grown; done) | exact bdrewN (by go_grown) _) (Nat.le_refl _)⟩ ?_
        clear q4 s4 t4 x4 y4 z4 hz4 q5 s5 t5 x5 y5 z5 hz5 q6 s6 t6 x6 y6 z6 hz6 q7 s7 t7 x7 y7 z7 hz7 e1 e2 e3 e4 hb1 hb2
        rintro w8 ⟨B8, lt8_0, lt8_1, lt8_2, c8_0, c8_1, c8_2, c8_3, c8_4, c8_5, c8_6, rr_P⟩
        have P := Lib.hid rr_P; clear rr_P
        obtain ⟨b1', o1', e1_, hb1, q1⟩ := P.out.1.spd (by omega)
        simp only [Option.some.injEq, Addr.mk.injEq, and_true] at e1_
        obtain ⟨rfl, rfl⟩ := e1_
        obtain ⟨b2', o2', e2_, hb2, q2⟩ := P.out.2.spd (by omega)
        simp only [Option.some.injEq, Addr.mk.injEq, and_true] at e2_
        obtain ⟨rfl, rfl⟩ := e2_
        have sm := q2 m (by omega); have sj := q2 j (by omega)
        unfold sqI at i2 i3 i9 i10
        generalize spd ls m = xm at *
        generalize spd ls j = xj at *
        have jj0 : (0 : Int) ≤ j := by omega
        have jj1 : (j : Int) < ls.length := by omega
        have mm0 : (0 : Int) ≤ m := by omega
        have mm1 : (m : Int) < ls.length := by omega
        clear r q1 q2 l0 l1 rs0
        obtain ⟨a_, ha_⟩ : ∃ x, hy * xj = x := ⟨_, rfl⟩
        obtain ⟨b_, hb_⟩ : ∃ x, co * xm = x := ⟨_, rfl⟩
        rw [ha_, hb_] at i2 i3 i9 i10
        rw [ha_] at v2
        rw [hb_] at v1
        have W0 : IntKind.i64.wrap (hy * xj) = a_ := by rw [ha_]; exact IntWalk.i64_in _ (by omega)
        have W1 : IntKind.i64.wrap (co * xm) = b_ := by rw [hb_]; exact IntWalk.i64_in _ (by omega)
        clear ha_ hb_
        go_quiet (fail)
        clear W0 W1
        go_wp2_with fail
        refine (implCanCross_any _ _ _ _ _ _ _ _ _ _ _ _ (P.out.below (B := w8.heap.size) (by first | exact Below.refl _ _ | (go_grown; done) | exact bdrewN (by go_grown) _) (Nat.le_refl _))).mono ?_
        rintro e w9 ⟨rfl, hb9⟩
        have P := Lib.hid (((P.out).below (B := w8.heap.size) (by first | exact Below.refl _ _ | (go_grown; done) | exact bdrewN (by go_grown) _) (Nat.le_refl _)).below hb9 (Nat.le_refl _))
        obtain ⟨B9, hz9, q9, s9, t9, x9, y9, z9⟩ := bkeep (w := w3) [w3.heap.size, w3.heap.size + 1, w4.heap.size] (by first | (simp; done) | (simp; omega)) (by first | (go_grown; done) | exact bdrewN (by go_grown) _) hb9; (try simp at hz9); clear hb9
        go_wp2_with fail
        refine (implCompare_any _ _ _ _ _ _ _).mono ?_
        rintro e w10 ⟨rfl, hb10⟩
        have P := Lib.hid (((P.out).below (B := w9.heap.size) (by first | exact Below.refl _ _ | (go_grown; done) | exact bdrewN (by go_grown) _) (Nat.le_refl _)).below hb10 (Nat.le_refl _))
        obtain ⟨B10, hz10, q10, s10, t10, x10, y10, z10⟩ := bkeep (w := w3) [w3.heap.size, w3.heap.size + 1, w4.heap.size] (by first | (simp; done) | (simp; omega)) (by first | (go_grown; done) | exact bdrewN (by go_grown) _) hb10; (try simp at hz10); clear hb10
        obtain ⟨f1, f3, g1⟩ := F.out
        go_wp2
        go_ret
        exact ⟨ret_bool (by first | (simp; done) | (simp; omega)), B3.out.trans (Below.mono (show Below w3.heap.size w3 _ by first | exact B10 | (go_grown; done) | exact bdrewN B10 _ | (go_grown <;> exact bdrewN B10 _)) B3.out.size)⟩
      · obtain ⟨e1, e4⟩ := sx_shut h0 hc
        go_wp2
        go_ret
        exact ⟨rfl, B3.out.trans (Below.mono (show Below w3.heap.size w3 _ by first | exact B7 | (go_grown; done) | exact bdrewN B7 _ | (go_grown <;> exact bdrewN B7 _)) B3.out.size)⟩
    · have e1 := sx_bad h0
      have e2 : (rayE ts ls src co si hy l == 0) = false := beq_eq_false_iff_ne.2 h0
      have e3 : (rayE ts ls src co si hy l != 0) = true := by simpa using h0
      go_wp2
      go_ret
      exact ⟨rfl, B3.out.trans (Below.mono (show Below w3.heap.size w3 _ by first | exact B7 | (go_grown; done) | exact bdrewN B7 _ | (go_grown <;> exact bdrewN B7 _)) B3.out.size)⟩
end Go.Proofs.Ytkmlcjhlckoajaa
