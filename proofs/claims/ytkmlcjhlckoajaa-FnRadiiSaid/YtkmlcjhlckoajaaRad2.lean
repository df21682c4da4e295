/- The radius of the circle in a layer, by the reference. -/
import Derived.Test.YtkmlcjhlckoajaaRad
namespace Go.Proofs.Ytkmlcjhlckoajaa
set_option linter.unusedSimpArgs false
set_option linter.unusedVariables false
open Go.RowKit

theorem specAbs_eq (a T : Int) (w : World) (h1 : -9000000000000000000 ≤ a) (h2 : a ≤ 9000000000000000000) (hT : (a.natAbs : Int) = T) :
    Calls Try.prog 95 #[.int .i64 a] w fun e w' => e = .returned (.int .i64 T) ∧ w = w' := by
  subst hT; exact specAbs_any a w h1 h2
set_option maxHeartbeats 2000000 in
theorem specArcRadius_any (A1 A2 : Option Addr) (c1 c2 : Nat) (ds ss : List Int) (src co si hy l : Int) (w : World) (h : ProfAt w A1 c1 A2 c2 ds ss) :
    Calls Try.prog 29 #[profV A1 ds.length c1 A2 ss.length c2, .int .i64 src, dirV co si hy, .int .i64 l] w fun e w' => e = .returned (.tuple #[ivV (arLo ds ss src co si hy l) (arHi ds ss src co si hy l), .int .i64 (arC ds ss src co si hy l)]) ∧ Below w.heap.size w w' := by
  by_cases h0 : arcE ds ss src co si hy l = 0
  · obtain ⟨r, l0, l1, -, -⟩ := arc_ok h0
    have lk := layOk r l0 l1
    have hE : (arcE ds ss src co si hy l == 0) = true := by rw [h0]; rfl
    have hE2 : (arcE ds ss src co si hy l != 0) = false := by rw [h0]; rfl
    have sr0 := r.s0; have sr1 := r.s1
    have ll := r.l1; have lc := r.l2; have ld := r.l3
    have sl := r.sp l l0 (by omega)
    have sl1 := r.sp (l + 1) (by omega) l1
    have ss0 := r.sp src sr0 sr1
    have dn := r.dp l l0 (by omega); have df := r.dp (l + 1) (by omega) l1
    have cc0 := r.c0; have cc1 := r.c1; have ch := r.h1
    obtain ⟨m, rfl⟩ := Int.eq_ofNat_of_zero_le l0
    obtain ⟨sn, rfl⟩ := Int.eq_ofNat_of_zero_le sr0
    obtain ⟨bb1, o1, rfl, hb1, q1⟩ := h.1.spd (by omega)
    obtain ⟨bb2, o2, rfl, hb2, q2⟩ := h.2.spd (by omega)
    have x0 := q1 m (by omega); have x1' := q1 (m + 1) (by omega)
    have y0 := q2 m (by omega); have y1' := q2 (m + 1) (by omega); have y2 := q2 sn (by omega)
    rw [show ((m + 1 : Nat) : Int) = (m : Int) + 1 by omega] at x1' y1'
    have k0 : (0 : Int) ≤ m := by omega
    have k2 : (m : Int) < ds.length := by omega
    have k3 : (m : Int) < ss.length := by omega
    have k4 : (0 : Int) ≤ (m : Int) + 1 := by omega
    have k5 : (m : Int) + 1 < ds.length := by omega
    have k6 : (m : Int) + 1 < ss.length := by omega
    have k7 : ((m : Int) + 1).toNat = m + 1 := by omega
    clear q1 q2
    by_cases hf : spd ss m = spd ss ((m : Int) + 1)
    · obtain ⟨e1, e2, e3⟩ := ar_flat h0 hf
      have hq : (spd ss m == spd ss ((m : Int) + 1)) = true := by simpa using hf
      have H := Lib.hid h; have E1 := Lib.hid e1; have E2 := Lib.hid e2; have E3 := Lib.hid e3; clear h r e1 e2 e3 h0 lk hf
      go_enter Try.func29, Try.ntmps29
      go_wp2_with (go_at_call 94; refine (l06Code_any _ _ _ _ _ _ _ _ _ _ _ _ ⟨(H.out.1.below (B := w.heap.size) (by first | exact Below.refl _ _ | (go_grown; done) | exact bdrewN (by go_grown) _) (Nat.le_refl _)), (H.out.2.below (B := w.heap.size) (by first | exact Below.refl _ _ | (go_grown; done) | exact bdrewN (by go_grown) _) (Nat.le_refl _))⟩).mono ?_; rintro e w1 ⟨rfl, hb1⟩; obtain ⟨B1, hz1, q1, s1, t1, x1, y1, z1⟩ := bkeep (w := w) [w.heap.size, w.heap.size + 1, w.heap.size + 2] (by first | (simp; done) | (simp; omega)) (by first | (go_grown; done) | exact bdrewN (by go_grown) _) hb1; (try simp at hz1); clear hb1)
      refine genS (S := fun w' => Below w.heap.size w w' ∧ w.heap.size + 1 + 1 < w'.heap.size ∧ (∀ o, w'.frozen? ⟨w.heap.size + 1 + 1, o, none⟩ = false) ∧ w'.cell? ⟨w.heap.size, 0, none⟩ = some (.slice (some ⟨bb1, o1, none⟩) ds.length c1) ∧ w'.cell? ⟨w.heap.size, 1, none⟩ = some (.slice (some ⟨bb2, o2, none⟩) ss.length c2) ∧ w'.cell? ⟨w.heap.size + 1, 0, none⟩ = some (.int .i64 co) ∧ w'.cell? ⟨w.heap.size + 1, 2, none⟩ = some (.int .i64 hy) ∧ w'.cell? ⟨w.heap.size + 1 + 1, 0, none⟩ = some (.int .i64 0) ∧ w'.cell? ⟨w.heap.size + 1 + 1, 1, none⟩ = some (.int .i64 0)) ⟨(by first | with_reducible exact B1 | (go_grown; done) | with_reducible exact bdrewN B1 _ | (go_grown <;> first | with_reducible exact bdrewN B1 _ | with_reducible exact B1)), by first | omega | (simp; done) | (simp; omega) | (have := x1 _ (by first | assumption | simp); omega) | (have hx_ := x1 (w.heap.size + 1 + 1) (by simp); simp; omega), fun o => by simp [*, go_sem], by simp [*, go_sem], by simp [*, go_sem], by simp [*, go_sem], by simp [*, go_sem], by simp [*, go_sem], by simp [*, go_sem]⟩ ?_
      rintro w3 ⟨B3, lt3_0, fz3, r3_0, r3_1, r3_2, r3_3, r3_4, r3_5⟩
      clear q1 s1 t1 x1 y1
      have xx0 := (B3.cell (p := ⟨bb1, o1 + m, none⟩) hb1).trans x0
      have xx1 := (B3.cell (p := ⟨bb1, o1 + (m + 1), none⟩) hb1).trans x1'
      have yy0 := (B3.cell (p := ⟨bb2, o2 + m, none⟩) hb2).trans y0
      have yy1 := (B3.cell (p := ⟨bb2, o2 + (m + 1), none⟩) hb2).trans y1'
      have yy2 := (B3.cell (p := ⟨bb2, o2 + sn, none⟩) hb2).trans y2
      have W0 : IntKind.i64.wrap ((m : Int) + 1) = (m : Int) + 1 := IntWalk.i64_in _ (by omega)
      go_quiet (fail)
      clear W0
      go_wp2
      refine bodyPost_ret (by simp [results, Try.results29, go_sem, *] <;> rfl) rfl ?_
      exact ⟨by rw [E1.out, E2.out, E3.out], by first | exact (by first | with_reducible exact B3 | (go_grown; done) | with_reducible exact bdrewN B3 _ | (go_grown <;> first | with_reducible exact bdrewN B3 _ | with_reducible exact B3)) | exact bdrewN B3 _⟩
    · have e1 : arC ds ss sn co si hy m = limC (radN ds ss sn hy m / radW ss co m) (-(-radN ds ss sn hy m / radW ss co m)) 3 := by unfold arC; rw [if_pos h0, if_neg hf]
      have e2 : arLo ds ss sn co si hy m = limLo (radN ds ss sn hy m / radW ss co m) (-(-radN ds ss sn hy m / radW ss co m)) := by unfold arLo; rw [if_pos h0, if_neg hf]
      have e3 : arHi ds ss sn co si hy m = limHi (radN ds ss sn hy m / radW ss co m) (-(-radN ds ss sn hy m / radW ss co m)) := by unfold arHi; rw [if_pos h0, if_neg hf]
      unfold radN at e1 e2 e3
      have hq : (spd ss m == spd ss ((m : Int) + 1)) = false := by simpa using hf
      have hfl := layFlat r lk
      obtain ⟨p0, p1, t0, t1, n0, n1, w0', w1', rr0, rr1, -, -, -, eW, -, aW⟩ := lk
      have hW0 : 0 < radW ss co m := by
        have : ¬ co * spd ss ((m : Int) + 1) - co * spd ss m = 0 := fun g => hf (hfl.1 g)
        omega
      unfold radW at e1 e2 e3 hW0 w1'
      have hA : ((spd ss ((m : Int) + 1) - spd ss m).natAbs : Int) = ((spd ss ((m : Int) + 1) - spd ss m).natAbs : Int) := rfl
      generalize hP : hy * spd ss sn = P at *
      generalize hT : spd ds ((m : Int) + 1) - spd ds m = T at *
      generalize hV : ((spd ss ((m : Int) + 1) - spd ss m).natAbs : Int) = V at hA hW0 w1' e1 e2 e3
      have hV0 : 0 ≤ V := by omega
      have hV1 : V ≤ 400000 := by omega
      generalize hWd : co * V = Wd at *
      obtain ⟨f1, f2⟩ := div_bd (a := P * T) (b := Wd) (M := 1700000000000000) hW0 (by omega) n1
      obtain ⟨f3, f4⟩ := div_bd (a := -(P * T)) (b := Wd) (M := 1700000000000000) hW0 (by omega) (by omega)
      have H := Lib.hid h; have E1 := Lib.hid e1; have E2 := Lib.hid e2; have E3 := Lib.hid e3; have HP := Lib.hid hP; have HT := Lib.hid hT; have HV := Lib.hid hV; have HW := Lib.hid hWd
      clear h r e1 e2 e3 h0 hfl hf hP hT hV hWd aW hA eW rr0 rr1 w0'
      go_enter Try.func29, Try.ntmps29
      go_wp2_with (go_at_call 94; refine (l06Code_any _ _ _ _ _ _ _ _ _ _ _ _ ⟨(H.out.1.below (B := w.heap.size) (by first | exact Below.refl _ _ | (go_grown; done) | exact bdrewN (by go_grown) _) (Nat.le_refl _)), (H.out.2.below (B := w.heap.size) (by first | exact Below.refl _ _ | (go_grown; done) | exact bdrewN (by go_grown) _) (Nat.le_refl _))⟩).mono ?_; rintro e w1 ⟨rfl, hb1⟩; obtain ⟨B1, hz1, q1, s1, t1, x1, y1, z1⟩ := bkeep (w := w) [w.heap.size, w.heap.size + 1, w.heap.size + 2] (by first | (simp; done) | (simp; omega)) (by first | (go_grown; done) | exact bdrewN (by go_grown) _) hb1; (try simp at hz1); clear hb1)
      refine genS (S := fun w' => Below w.heap.size w w' ∧ w.heap.size + 1 + 1 < w'.heap.size ∧ (∀ o, w'.frozen? ⟨w.heap.size + 1 + 1, o, none⟩ = false) ∧ w'.cell? ⟨w.heap.size, 0, none⟩ = some (.slice (some ⟨bb1, o1, none⟩) ds.length c1) ∧ w'.cell? ⟨w.heap.size, 1, none⟩ = some (.slice (some ⟨bb2, o2, none⟩) ss.length c2) ∧ w'.cell? ⟨w.heap.size + 1, 0, none⟩ = some (.int .i64 co) ∧ w'.cell? ⟨w.heap.size + 1, 2, none⟩ = some (.int .i64 hy) ∧ w'.cell? ⟨w.heap.size + 1 + 1, 0, none⟩ = some (.int .i64 0) ∧ w'.cell? ⟨w.heap.size + 1 + 1, 1, none⟩ = some (.int .i64 0)) ⟨(by first | with_reducible exact B1 | (go_grown; done) | with_reducible exact bdrewN B1 _ | (go_grown <;> first | with_reducible exact bdrewN B1 _ | with_reducible exact B1)), by first | omega | (simp; done) | (simp; omega) | (have := x1 _ (by first | assumption | simp); omega) | (have hx_ := x1 (w.heap.size + 1 + 1) (by simp); simp; omega), fun o => by simp [*, go_sem], by simp [*, go_sem], by simp [*, go_sem], by simp [*, go_sem], by simp [*, go_sem], by simp [*, go_sem], by simp [*, go_sem]⟩ ?_
      rintro w3 ⟨B3, lt3_0, fz3, r3_0, r3_1, r3_2, r3_3, r3_4, r3_5⟩
      clear q1 s1 t1 x1 y1
      have xx0 := (B3.cell (p := ⟨bb1, o1 + m, none⟩) hb1).trans x0
      have xx1 := (B3.cell (p := ⟨bb1, o1 + (m + 1), none⟩) hb1).trans x1'
      have yy0 := (B3.cell (p := ⟨bb2, o2 + m, none⟩) hb2).trans y0
      have yy1 := (B3.cell (p := ⟨bb2, o2 + (m + 1), none⟩) hb2).trans y1'
      have yy2 := (B3.cell (p := ⟨bb2, o2 + sn, none⟩) hb2).trans y2
      have W0 : IntKind.i64.wrap ((m : Int) + 1) = (m : Int) + 1 := IntWalk.i64_in _ (by omega)
      go_quiet (fail)
      clear W0
      go_wp2_with fail
      have W0 : IntKind.i64.wrap ((m : Int) + 1) = (m : Int) + 1 := IntWalk.i64_in _ (by omega)
      have W1 : IntKind.i64.wrap (hy * spd ss sn) = P := by rw [HP.out]; exact IntWalk.i64_in _ (by omega)
      have W2 : IntKind.i64.wrap (spd ds ((m : Int) + 1) - spd ds m) = T := by rw [HT.out]; exact IntWalk.i64_in _ (by omega)
      have W3 : IntKind.i64.wrap (P * T) = P * T := IntWalk.i64_in _ (by omega)
      go_quiet (fail)
      clear W0 W1 W2 W3
      go_wp2_with fail
      have W0 : IntKind.i64.wrap ((m : Int) + 1) = (m : Int) + 1 := IntWalk.i64_in _ (by omega)
      have W1 : IntKind.i64.wrap (spd ss ((m : Int) + 1) - spd ss m) = spd ss ((m : Int) + 1) - spd ss m := IntWalk.i64_in _ (by omega)
      have W2 : IntKind.i64.wrap (co * V) = Wd := by rw [HW.out]; exact IntWalk.i64_in _ (by omega)
      go_region_held3 (fun w' => w'.cell? ⟨w.heap.size + 1, 0, none⟩ = some (.int .i64 co) ∧ w'.cell? ⟨w.heap.size, 1, none⟩ = some (.slice (some ⟨bb2, o2, none⟩) ss.length c2) ∧ w'.cell? ⟨bb2, o2 + m, none⟩ = some (.int .i64 (spd ss m)) ∧ w'.cell? ⟨bb2, o2 + (m + 1), none⟩ = some (.int .i64 (spd ss ((m : Int) + 1)))) (first | (go_keep; done) | (simp [*, go_sem]; done))
        (first
          | (go_at_call 95; refine (specAbs_eq _ V _ (by omega) (by omega) HV.out).mono ?_; rintro e w' ⟨rfl, rfl⟩))
      clear W0 W1 W2
      go_wp2_with (first
        | (go_at_call 71; refine (specFloor_any _ _ _ hW0 (by omega) (by omega) (by omega)).mono ?_; rintro e w' ⟨rfl, rfl⟩)
        | (go_at_call 72; refine (specCeil_any _ _ _ hW0 (by omega) (by omega) (by omega)).mono ?_; rintro e w' ⟨rfl, rfl⟩)
        | (go_at_call 96; refine (l06Limit_any _ _ _).mono ?_; rintro e w4 ⟨rfl, hb4⟩; obtain ⟨B4, hz4, q4, s4, t4, x4, y4, z4⟩ := bkeep (w := w) [w.heap.size + 2] (by first | (simp; done) | (simp; omega)) (by first | (go_grown; done) | exact bdrewN (by go_grown) _) hb4; (try simp at hz4); clear hb4))
      have d0 : w4.cell? ⟨w.heap.size + 1 + 1, 0, none⟩ = some (.int .i64 0) := by simp [*, go_sem]
      have d1 : w4.cell? ⟨w.heap.size + 1 + 1, 1, none⟩ = some (.int .i64 0) := by simp [*, go_sem]
      clear q4
      refine bodyPost_ret (by simp [results, Try.results29, go_sem, *] <;> rfl) rfl ?_
      exact ⟨by rw [E1.out, E2.out, E3.out], (by first | with_reducible exact B4 | (go_grown; done) | with_reducible exact bdrewN B4 _ | (go_grown <;> first | with_reducible exact bdrewN B4 _ | with_reducible exact B4))⟩
  · obtain ⟨e1, e2, e3⟩ := ar_bad h0
    have hE : (arcE ds ss src co si hy l == 0) = false := by simpa using h0
    have hE2 : (arcE ds ss src co si hy l != 0) = true := by simpa using h0
    have H := Lib.hid h; have E1 := Lib.hid e1; have E2 := Lib.hid e2; have E3 := Lib.hid e3; have H0 := Lib.hid h0; clear h e1 e2 e3 h0
    go_enter Try.func29, Try.ntmps29
    go_wp2_with (go_at_call 94; refine (l06Code_any _ _ _ _ _ _ _ _ _ _ _ _ ⟨(H.out.1.below (B := w.heap.size) (by first | exact Below.refl _ _ | (go_grown; done) | exact bdrewN (by go_grown) _) (Nat.le_refl _)), (H.out.2.below (B := w.heap.size) (by first | exact Below.refl _ _ | (go_grown; done) | exact bdrewN (by go_grown) _) (Nat.le_refl _))⟩).mono ?_; rintro e w1 ⟨rfl, hb1⟩; obtain ⟨B1, hz1, q1, s1, t1, x1, y1, z1⟩ := bkeep (w := w) [w.heap.size, w.heap.size + 1, w.heap.size + 2] (by first | (simp; done) | (simp; omega)) (by first | (go_grown; done) | exact bdrewN (by go_grown) _) hb1; (try simp at hz1); clear hb1)
    have d0 : w1.cell? ⟨w.heap.size + 1 + 1, 0, none⟩ = some (.int .i64 0) := by simp [*, go_sem]
    have d1 : w1.cell? ⟨w.heap.size + 1 + 1, 1, none⟩ = some (.int .i64 0) := by simp [*, go_sem]
    have fz : ∀ o, w1.frozen? ⟨w.heap.size + 1 + 1, o, none⟩ = false := fun o => by simp [*, go_sem]
    refine genS (S := fun w' => Below w.heap.size w w' ∧ (∀ o, w'.frozen? ⟨w.heap.size + 1 + 1, o, none⟩ = false) ∧ w'.cell? ⟨w.heap.size + 1 + 1, 0, none⟩ = some (.int .i64 0) ∧ w'.cell? ⟨w.heap.size + 1 + 1, 1, none⟩ = some (.int .i64 0)) ⟨(by first | with_reducible exact B1 | (go_grown; done) | with_reducible exact bdrewN B1 _ | (go_grown <;> first | with_reducible exact bdrewN B1 _ | with_reducible exact B1)), fun o => by simp [*, go_sem], by simp [*, go_sem], by simp [*, go_sem]⟩ ?_
    rintro w3 ⟨B3, fz3, r0, r1⟩
    clear q1 s1 t1 x1 y1 d0 d1 fz
    go_quiet (fail)
    go_wp2
    refine bodyPost_ret (by simp [results, Try.results29, go_sem, *] <;> rfl) rfl ?_
    exact ⟨by rw [E1.out, E2.out, E3.out], by first | exact (by first | with_reducible exact B3 | (go_grown; done) | with_reducible exact bdrewN B3 _ | (go_grown <;> first | with_reducible exact bdrewN B3 _ | with_reducible exact B3)) | exact bdrewN B3 _⟩
end Go.Proofs.Ytkmlcjhlckoajaa
