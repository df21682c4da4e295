/- The law of FnRadii: the radius of a circle is that of the turning speed over the gradient. -/
import Derived.Test.YtkmlcjhlckoajaaDraw06
import Derived.Test.YtkmlcjhlckoajaaRad2
import Derived.Test.YtkmlcjhlckoajaaDivm
import Derived.Test.YtkmlcjhlckoajaaBig
import Derived.Deep.QuietTactic
import Derived.BigQuiet
namespace Go.Proofs.Ytkmlcjhlckoajaa
set_option linter.unusedSimpArgs false
set_option linter.unusedVariables false
open Go.RowKit

theorem radii_ok {ds ss : List Int} {src co si hy l : Int} (h : arC ds ss src co si hy l = 0) :
    RayOk ds ss src co si hy ∧ 0 ≤ l ∧ l + 1 < ss.length ∧ spd ss l ≠ spd ss (l + 1) ∧
    arLo ds ss src co si hy l * radW ss co l ≤ radN ds ss src hy l ∧ radN ds ss src hy l ≤ arHi ds ss src co si hy l * radW ss co l ∧ arHi ds ss src co si hy l - arLo ds ss src co si hy l ≤ 1 ∧
    0 ≤ arLo ds ss src co si hy l ∧ arHi ds ss src co si hy l * radW ss co l ≤ 4000000000000000 ∧ arHi ds ss src co si hy l ≤ 1000000000000 ∧ arLo ds ss src co si hy l ≤ arHi ds ss src co si hy l := by
  by_cases h0 : arcE ds ss src co si hy l = 0
  · by_cases h1 : spd ss l = spd ss (l + 1)
    · have := (ar_flat h0 h1).1; omega
    · obtain ⟨r, l0, l1, -, -⟩ := arc_ok h0
      have L := layOk r l0 l1
      have hW : 1 ≤ radW ss co l := by
        have a := L.w0
        have f := layFlat r L
        have b := L.aW
        by_cases g : radW ss co l = 0
        · exfalso
          apply h1
          apply f.1
          omega
        · omega
      have e1 : arC ds ss src co si hy l = limC (radN ds ss src hy l / radW ss co l) (-(-radN ds ss src hy l / radW ss co l)) 3 := by unfold arC; rw [if_pos h0, if_neg h1]
      have e2 : arLo ds ss src co si hy l = limLo (radN ds ss src hy l / radW ss co l) (-(-radN ds ss src hy l / radW ss co l)) := by unfold arLo; rw [if_pos h0, if_neg h1]
      have e3 : arHi ds ss src co si hy l = limHi (radN ds ss src hy l / radW ss co l) (-(-radN ds ss src hy l / radW ss co l)) := by unfold arHi; rw [if_pos h0, if_neg h1]
      rw [e1] at h
      obtain ⟨k1, k2, b1, b2, b3, b4⟩ := lim_zero (by omega) h
      rw [e2, e3, k1, k2]
      have f1 := fl_mul (n := radN ds ss src hy l) (d := radW ss co l) (by omega)
      have f2 := ce_mul (n := radN ds ss src hy l) (d := radW ss co l) (by omega)
      have f3 := cg_gap (n := radN ds ss src hy l) (d := radW ss co l) (by omega)
      have n0 := L.n0; have n1 := L.n1; have w1 := L.w1
      change 0 ≤ radN ds ss src hy l at n0
      change radN ds ss src hy l ≤ _ at n1
      have f4 := Int.ediv_nonneg n0 (show 0 ≤ radW ss co l by omega)
      exact ⟨r, l0, l1, h1, f1.1, f2.1, by omega, f4, by omega, b4, f3.1⟩
  · have := (ar_bad h0).1; omega

set_option maxRecDepth 100000 in
set_option maxHeartbeats 8000000 in
theorem lawRadii_any (A : Option Addr) (c : Nat) (xs : List Int) (w : World) (h : BytesAt w A c xs) :
    Calls Try.prog 5 #[.slice A xs.length c] w fun e w' => e = .returned (.bool true) ∧ Below w.heap.size w w' := by
  have hn := Nat.le_trans h.1 h.2.1
  have H := Lib.hid h; clear h
  by_cases hbig : (4096 : Int) < xs.length
  · go_enter Try.func5, Try.ntmps5
    go_wp2_with (go_at_call 11; refine (big_any _ _ _ _ hn).mono ?_; rintro e w' ⟨rfl, rfl⟩)
    go_ret
    exact ⟨rfl, Below.refl _ _⟩
  · go_enter Try.func5, Try.ntmps5
    go_wp2_with (go_at_call 11; refine (big_any _ _ _ _ hn).mono ?_; rintro e w' ⟨rfl, rfl⟩)
    refine (drawArcRadius_any A c xs _ H.out).mono ?_
    rintro e w3 ⟨⟨A1, c1, A2, c2, ts, ls, src, co, si, hy, l, rfl, rp⟩, hb3⟩
    have P := Lib.hid rp.at; clear rp
    have HX := Lib.hid (H.out.below hb3 (Nat.le_refl _))
    have B3 := Lib.hid hb3; clear hb3
    go_wp2_with fail
    refine (implArcRadius_any _ _ _ _ _ _ _ _ _ _ _ _ (P.out.below (B := w3.heap.size) (by first | exact Below.refl _ _ | (go_grown; done) | exact bdrewN (by go_grown) _) (Nat.le_refl _))).mono ?_
    rintro e w4 ⟨rfl, hb4⟩
    have P := Lib.hid (((P.out).below (B := w3.heap.size) (by first | exact Below.refl _ _ | (go_grown; done) | exact bdrewN (by go_grown) _) (Nat.le_refl _)).below hb4 (Nat.le_refl _))
    obtain ⟨B4, hz4, q4, s4, t4, x4, y4, z4⟩ := bkeep (w := w3) [w3.heap.size, w3.heap.size + 1] (by first | (simp; done) | (simp; omega)) (by first | (go_grown; done) | exact bdrewN (by go_grown) _) hb4; (try simp at hz4); clear hb4
    go_wp2_with fail
    refine (specArcRadius_any _ _ _ _ _ _ _ _ _ _ _ _ (P.out.below (B := w4.heap.size) (by first | exact Below.refl _ _ | (go_grown; done) | exact bdrewN (by go_grown) _) (Nat.le_refl _))).mono ?_
    rintro e w5 ⟨rfl, hb5⟩
    have P := Lib.hid (((P.out).below (B := w4.heap.size) (by first | exact Below.refl _ _ | (go_grown; done) | exact bdrewN (by go_grown) _) (Nat.le_refl _)).below hb5 (Nat.le_refl _))
    obtain ⟨B5, hz5, q5, s5, t5, x5, y5, z5⟩ := bkeep (w := w3) [w3.heap.size, w3.heap.size + 1, w4.heap.size] (by first | (simp; done) | (simp; omega)) (by first | (go_grown; done) | exact bdrewN (by go_grown) _) hb5; (try simp at hz5); clear hb5
    by_cases hc : arC ts ls src co si hy l = 0
    · obtain ⟨r, l0, l1, hne, i1, i2, i3, i4, i5, i6, i7⟩ := radii_ok hc
      have L := layOk r l0 l1
      have rs0 := r.s0; have rs1 := r.s1; have rl0 := r.l0; have rl1 := r.l1; have rl2 := r.l2; have rl3 := r.l3; have rc0 := r.c0; have rc1 := r.c1; have rh1 := r.h1
      obtain ⟨m, rfl⟩ := Int.eq_ofNat_of_zero_le l0
      obtain ⟨j, rfl⟩ := Int.eq_ofNat_of_zero_le rs0
      have kk : ((m + 1 : Nat) : Int) = (m : Int) + 1 := by omega
      have v0 := r.sp m (by omega) (by omega); have v1 := r.sp ((m : Int) + 1) (by omega) (by omega); have vj := r.sp j (by omega) (by omega)
      have u0 := r.dp m (by omega) (by omega); have u1 := r.dp ((m : Int) + 1) (by omega) (by omega); have uu := r.up m (by omega) (by omega)
      have p0 := L.p0; have p1 := L.p1; have n0 := L.n0; have n1 := L.n1; have w0 := L.w0; have w1 := L.w1
      obtain ⟨b1, o1, rfl, hb1, q1_⟩ := P.out.1.spd (by omega)
      obtain ⟨b2, o2, rfl, hb2, q2_⟩ := P.out.2.spd (by omega)
      obtain ⟨lo, hlo⟩ : ∃ x, arLo ts ls j co si hy m = x := ⟨_, rfl⟩
      obtain ⟨hi, hhi⟩ : ∃ x, arHi ts ls j co si hy m = x := ⟨_, rfl⟩
      rw [hlo] at i1 i3 i4 i7; rw [hhi] at i2 i3 i5 i6 i7
      have q1 := fun k hk => q1_ k hk; have Q1 := Lib.hid q1_; have Q2 := Lib.hid q2_; clear q1_ q2_ q1
      go_wp2_with fail
      refine genS (S := fun w' => Below w3.heap.size w3 w' ∧ w3.heap.size < w'.heap.size ∧ w'.cell? ⟨w3.heap.size, 0, none⟩ = some (.slice (some ⟨b1, o1, none⟩) (List.length ts) c1) ∧ w'.cell? ⟨w3.heap.size, 1, none⟩ = some (.slice (some ⟨b2, o2, none⟩) (List.length ls) c2) ∧ w'.cell? ⟨w3.heap.size + 1, 0, none⟩ = some (.int .i64 co) ∧ w'.cell? ⟨w3.heap.size + 1, 1, none⟩ = some (.int .i64 si) ∧ w'.cell? ⟨w3.heap.size + 1, 2, none⟩ = some (.int .i64 hy) ∧ w'.cell? ⟨w4.heap.size, 0, none⟩ = some (.int .i64 lo) ∧ w'.cell? ⟨w4.heap.size, 1, none⟩ = some (.int .i64 hi) ∧ ProfAt w' (some ⟨b1, o1, none⟩) c1 (some ⟨b2, o2, none⟩) c2 ts ls) ⟨(by first | exact B5 | exact bdrewN B5 _ | exact bdrewN (bdrewN B5 _) _ | (go_grown; done) | (go_grown <;> exact bdrewN B5 _)), by first | omega | (simp; done) | (simp; omega), by simp [*, go_sem], by simp [*, go_sem], by simp [*, go_sem], by simp [*, go_sem], by simp [*, go_sem], by simp [*, go_sem], by simp [*, go_sem], (P.out).below (B := w5.heap.size) (by first | exact Below.refl _ _ | exact bdrewN (Below.refl _ _) _ | exact bdrewN (bdrewN (Below.refl _ _) _) _ | (go_grown; done) | exact bdrewN (by go_grown) _) (Nat.le_refl _)⟩ ?_
      clear q4 s4 t4 x4 y4 z4 hz4 q5 s5 t5 x5 y5 z5 hz5 hlo hhi Q1 Q2 hc hb1 hb2
      rintro w6 ⟨B6, lt6_0, c6_0, c6_1, c6_2, c6_3, c6_4, c6_5, c6_6, rr_P⟩
      have P := Lib.hid rr_P; clear rr_P
      obtain ⟨b1', o1', e1_, hb1, q1⟩ := P.out.1.spd (by omega)
      simp only [Option.some.injEq, Addr.mk.injEq, and_true] at e1_
      obtain ⟨rfl, rfl⟩ := e1_
      obtain ⟨b2', o2', e2_, hb2, q2⟩ := P.out.2.spd (by omega)
      simp only [Option.some.injEq, Addr.mk.injEq, and_true] at e2_
      obtain ⟨rfl, rfl⟩ := e2_
      have d0 := q1 m (by omega); have d1 := q1 (m + 1) (by omega); have s0 := q2 m (by omega); have s1 := q2 (m + 1) (by omega); have sj := q2 j (by omega)
      rw [kk] at d1 s1
      unfold radW at i1 i2 i5 w0 w1
      unfold radN at i1 i2
      generalize spd ls m = x0 at *
      generalize spd ls ((m : Int) + 1) = x1 at *
      generalize spd ls j = xj at *
      generalize spd ts m = y0 at *
      generalize spd ts ((m : Int) + 1) = y1 at *
      have jj0 : (0 : Int) ≤ j := by omega
      have jj1 : (j : Int) < ls.length := by omega
      have mm0 : (0 : Int) ≤ m := by omega
      have mm1 : (m : Int) < ls.length := by omega
      have mm2 : (0 : Int) ≤ (m : Int) + 1 := by omega
      have mm3 : (m : Int) + 1 < ls.length := by omega
      have mm4 : ((m : Int) + 1).toNat = m + 1 := by omega
      have mm5 : (m : Int) < ts.length := by omega
      have mm6 : (m : Int) + 1 < ts.length := by omega
      clear r L P q1 q2 kk l0 l1 rs0
      by_cases hlt : x0 < x1
      · have eD : ((x1 - x0).natAbs : Int) = x1 - x0 := by omega
        rw [eD] at i1 i2 i5 w0 w1
        have cmp : x0 - x1 < x1 - x0 := by omega
        have lw := Int.mul_nonneg i4 w0
        obtain ⟨N, hN⟩ : ∃ N, hy * xj * (y1 - y0) = N := ⟨_, rfl⟩
        rw [hN] at i1 i2 n0 n1
        have eN := Lib.hid hN; clear eD
        have W0 : IntKind.i64.wrap ((m : Int) + 1) = (m : Int) + 1 := IntWalk.i64_in _ (by omega)
        have W1 : IntKind.i64.wrap (x0 - x1) = x0 - x1 := IntWalk.i64_in _ (by omega)
        have W2 : IntKind.i64.wrap (x1 - x0) = x1 - x0 := IntWalk.i64_in _ (by omega)
        have W3 : IntKind.i64.wrap (co * (x1 - x0)) = co * (x1 - x0) := IntWalk.i64_in _ (by omega)
        have W4 : IntKind.i64.wrap (hy * xj) = hy * xj := IntWalk.i64_in _ (by omega)
        have W5 : IntKind.i64.wrap (y1 - y0) = y1 - y0 := IntWalk.i64_in _ (by omega)
        have W6 : IntKind.i64.wrap (hy * xj * (y1 - y0)) = N := by rw [hN]; exact IntWalk.i64_in _ (by omega)
        clear hN
        go_quiet (fail)
        go_wp2_with fail
        go_quiet (fail)
        clear W0 W1 W2 W3 W4 W5 W6
        go_wp2
        go_ret
        exact ⟨ret_bool (by first | (simp; done) | (simp; omega)), B3.out.trans (Below.mono (show Below w3.heap.size w3 _ by first | exact B6 | (go_grown; done) | exact bdrewN B6 _ | exact bdrewN (bdrewN B6 _) _ | (go_grown <;> exact bdrewN B6 _)) B3.out.size)⟩
      · have eD : ((x1 - x0).natAbs : Int) = x0 - x1 := by omega
        rw [eD] at i1 i2 i5 w0 w1
        have cmp : ¬ (x0 - x1 < x1 - x0) := by omega
        have lw := Int.mul_nonneg i4 w0
        obtain ⟨N, hN⟩ : ∃ N, hy * xj * (y1 - y0) = N := ⟨_, rfl⟩
        rw [hN] at i1 i2 n0 n1
        have eN := Lib.hid hN; clear eD
        have W0 : IntKind.i64.wrap ((m : Int) + 1) = (m : Int) + 1 := IntWalk.i64_in _ (by omega)
        have W1 : IntKind.i64.wrap (x0 - x1) = x0 - x1 := IntWalk.i64_in _ (by omega)
        have W2 : IntKind.i64.wrap (x1 - x0) = x1 - x0 := IntWalk.i64_in _ (by omega)
        have W3 : IntKind.i64.wrap (co * (x0 - x1)) = co * (x0 - x1) := IntWalk.i64_in _ (by omega)
        have W4 : IntKind.i64.wrap (hy * xj) = hy * xj := IntWalk.i64_in _ (by omega)
        have W5 : IntKind.i64.wrap (y1 - y0) = y1 - y0 := IntWalk.i64_in _ (by omega)
        have W6 : IntKind.i64.wrap (hy * xj * (y1 - y0)) = N := by rw [hN]; exact IntWalk.i64_in _ (by omega)
        clear hN
        go_quiet (fail)
        go_wp2_with fail
        go_quiet (fail)
        clear W0 W1 W2 W3 W4 W5 W6
        go_wp2
        go_ret
        exact ⟨ret_bool (by first | (simp; done) | (simp; omega)), B3.out.trans (Below.mono (show Below w3.heap.size w3 _ by first | exact B6 | (go_grown; done) | exact bdrewN B6 _ | exact bdrewN (bdrewN B6 _) _ | (go_grown <;> exact bdrewN B6 _)) B3.out.size)⟩
    · have hc2 : (arC ts ls src co si hy l != 0) = true := by simpa using hc
      go_wp2
      go_ret
      exact ⟨rfl, B3.out.trans (Below.mono (show Below w3.heap.size w3 _ by first | exact B5 | (go_grown; done) | exact bdrewN B5 _ | (go_grown <;> exact bdrewN B5 _)) B3.out.size)⟩
end Go.Proofs.Ytkmlcjhlckoajaa
