/- The depth at which a ray is horizontal in a layer, by the reference. -/
import Derived.Test.YtopggkomkfjbfaaTd
namespace Go.Proofs.Ytopggkomkfjbfaa
set_option linter.unusedSimpArgs false
set_option linter.unusedVariables false
open Go.RowKit

set_option maxHeartbeats 4000000 in
theorem specTurnDepth_true (A1 A2 : Option Addr) (c1 c2 : Nat) (ds ss : List Int) (src co si hy l : Int) (w : World) (h : ProfAt w A1 c1 A2 c2 ds ss) (ho : vaE 2 ds ss src co si hy l true = 0) :
    Calls Try.prog 54 #[profV A1 ds.length c1 A2 ss.length c2, .int .i64 src, dirV co si hy, .int .i64 l, .bool true] w fun e w' => e = .returned (.tuple #[ivV (tLo ds ss src co si hy l true) (tHi ds ss src co si hy l true), .int .i64 (vaE 2 ds ss src co si hy l true)]) ∧ Below w.heap.size w w' := by
  obtain ⟨h0, hv⟩ := va_ok ho
  obtain ⟨hcn, hcf⟩ := vd_two hv
  obtain ⟨r, l0, l1, -, -⟩ := arc_ok h0
  have hE : (arcE ds ss src co si hy l == 0) = true := by rw [h0]; rfl
  have hE2 : (arcE ds ss src co si hy l != 0) = false := by rw [h0]; rfl
  obtain ⟨n0, n1⟩ := near_bd true l0 l1
  obtain ⟨f0, f1⟩ := far_bd true l0 l1
  have tk := tdOk r n0 n1 f0 f1 hcn hcf
  have e1 : tLo ds ss src co si hy l true = tdLo ds ss src co hy (nearK l true) (farK l true) := by unfold tLo; rw [if_pos ho]
  have e2 : tHi ds ss src co si hy l true = tdHi ds ss src co hy (nearK l true) (farK l true) := by unfold tHi; rw [if_pos ho]
  have hV : ∀ w, ProfAt w A1 c1 A2 c2 ds ss → Calls Try.prog 89 #[profV A1 ds.length c1 A2 ss.length c2, .int .i64 src, dirV co si hy, .int .i64 l, .bool true] w fun e w' => e = .returned (.int .i64 2) ∧ Below w.heap.size w w' := fun w hh => hv ▸ l06Verdict_any A1 A2 c1 c2 ds ss src co si hy l true w hh r l0 l1
  have ll := r.l1; have lc := r.l2; have ld := r.l3
  have hEnds : ∀ w, Calls Try.prog 90 #[.int .i64 l, .bool true] w fun e w' => e = .returned (.tuple #[.int .i64 (nearK l true), .int .i64 (farK l true)]) ∧ w = w' := fun w => l06Ends_any l true w l0 (by omega)
  have sr0 := r.s0; have sr1 := r.s1
  have u0 := r.up l l0 l1
  have dn0 := r.dp l l0 (by omega); have dn1 := r.dp (l + 1) (by omega) l1
  have ssl := r.sp l l0 (by omega); have ssl1 := r.sp (l + 1) (by omega) l1
  have cc0 := r.c0; have cc1 := r.c1; have ch := r.h1
  clear hv
  obtain ⟨m, rfl⟩ := Int.eq_ofNat_of_zero_le l0
  obtain ⟨sn, rfl⟩ := Int.eq_ofNat_of_zero_le sr0
  have hnk : nearK (m : Int) true = (m : Int) := rfl
  have hfk : farK (m : Int) true = ((m : Int) + 1) := rfl
  rw [hnk, hfk] at tk e1 e2
  simp only [hnk, hfk] at hEnds
  unfold tdLo tdN tdR at e1
  unfold tdHi tdN tdR at e2
  rw [if_pos (show (m : Int) < (m : Int) + 1 by omega)] at e1 e2
  have eT : ((spd ds ((m : Int) + 1) - spd ds (m : Int)).natAbs : Int) = spd ds ((m : Int) + 1) - spd ds m := by omega
  have eR : co * spd ss ((m : Int) + 1) - co * spd ss (m : Int) = co * (spd ss ((m : Int) + 1) - spd ss (m : Int)) := by rw [Int.mul_sub]
  rw [eT, eR] at tk e1 e2
  obtain ⟨bb1, o1, rfl, hb1, q1⟩ := h.1.spd (by omega)
  obtain ⟨bb2, o2, rfl, hb2, q2⟩ := h.2.spd (by omega)
  have x0 := q1 m (by omega); have x1' := q1 (m + 1) (by omega)
  have y0 := q2 m (by omega); have y1' := q2 (m + 1) (by omega); have y2 := q2 sn (by omega)
  rw [show ((m + 1 : Nat) : Int) = (m : Int) + 1 by omega] at x1' y1'
  have k0 : (0 : Int) ≤ m := by omega
  have k2 : (m : Int) < ds.length := by omega
  have k3 : (m : Int) < ss.length := by omega
  have k4 : (0 : Int) ≤ (m : Int) + 1 := by omega
  have k5 : (m : Int) + 1 < ds.length := by omega
  have k6 : (m : Int) + 1 < ss.length := by omega
  have k7 : ((m : Int) + 1).toNat = m + 1 := by omega
  obtain ⟨p0, p1, qq0, qq1, r0', r1', v0, t0, t1, nn0, nn1, -, -, -, -⟩ := tk
  clear q1 q2 hnk hfk eT eR n0 n1 f0 f1 hcn hcf
  generalize hP : hy * spd ss sn = P at *
  generalize hQ : co * spd ss (m : Int) = Q at *
  generalize hT : spd ds ((m : Int) + 1) - spd ds m = T at *
  generalize hR : co * (spd ss ((m : Int) + 1) - spd ss (m : Int)) = R at *
  obtain ⟨g1, g2⟩ := div_bd (a := T * (P - Q)) (b := R) (M := 1700000000000000) r0' (by omega) nn1
  obtain ⟨g3, g4⟩ := div_bd (a := -(T * (P - Q))) (b := R) (M := 1700000000000000) r0' (by omega) (by omega)
  have H := Lib.hid h; have HO := Lib.hid ho; have E1 := Lib.hid e1; have E2 := Lib.hid e2; have HP := Lib.hid hP; have HQ := Lib.hid hQ; have HR := Lib.hid hR; have HT := Lib.hid hT; have HV := Lib.hid hV; have HE := Lib.hid hEnds
  clear h r e1 e2 hP hQ hR hT hV hEnds h0 ho
  go_enter Try.func54, Try.ntmps54
  go_wp2_with (first
    | (go_at_call 88; refine (l06Code_any _ _ _ _ _ _ _ _ _ _ _ _ ⟨(H.out.1.below (B := w.heap.size) (by first | exact Below.refl _ _ | (go_grown; done) | exact bdrewN (by go_grown) _) (Nat.le_refl _)), (H.out.2.below (B := w.heap.size) (by first | exact Below.refl _ _ | (go_grown; done) | exact bdrewN (by go_grown) _) (Nat.le_refl _))⟩).mono ?_; rintro e w1 ⟨rfl, hb1⟩; obtain ⟨B1, hz1, q1, s1, t1, x1, y1, z1⟩ := bkeep (w := w) [w.heap.size, w.heap.size + 1, w.heap.size + 2] (by first | (simp; done) | (simp; omega)) (by first | (go_grown; done) | exact bdrewN (by go_grown) _) hb1; (try simp at hz1); clear hb1)
    | (go_at_call 89; refine (HV.out _ ⟨(H.out.1.below (B := w.heap.size) (by first | exact Below.refl _ _ | (go_grown; done) | exact bdrewN (by go_grown) _) (Nat.le_refl _)), (H.out.2.below (B := w.heap.size) (by first | exact Below.refl _ _ | (go_grown; done) | exact bdrewN (by go_grown) _) (Nat.le_refl _))⟩).mono ?_; rintro e w2 ⟨rfl, hb2⟩; obtain ⟨B2, hz2, q2, s2, t2, x2, y2, z2⟩ := bkeep (w := w) [w.heap.size, w.heap.size + 1, w.heap.size + 2] (by first | (simp; done) | (simp; omega)) (by first | (go_grown; done) | exact bdrewN (by go_grown) _) hb2; (try simp at hz2); clear hb2)
    | (go_at_call 90; refine (HE.out _).mono ?_; rintro e w' ⟨rfl, rfl⟩))
  refine genS (S := fun w' => Below w.heap.size w w' ∧ w.heap.size + 1 + 1 < w'.heap.size ∧ (∀ o, w'.frozen? ⟨w.heap.size + 1 + 1, o, none⟩ = false) ∧ w'.cell? ⟨w.heap.size, 0, none⟩ = some (.slice (some ⟨bb1, o1, none⟩) ds.length c1) ∧ w'.cell? ⟨w.heap.size, 1, none⟩ = some (.slice (some ⟨bb2, o2, none⟩) ss.length c2) ∧ w'.cell? ⟨w.heap.size + 1, 0, none⟩ = some (.int .i64 co) ∧ w'.cell? ⟨w.heap.size + 1, 2, none⟩ = some (.int .i64 hy) ∧ w'.cell? ⟨w.heap.size + 1 + 1, 0, none⟩ = some (.int .i64 0) ∧ w'.cell? ⟨w.heap.size + 1 + 1, 1, none⟩ = some (.int .i64 0)) ⟨(by first | with_reducible exact B2 | (go_grown; done) | with_reducible exact bdrewN B2 _ | (go_grown <;> first | with_reducible exact bdrewN B2 _ | with_reducible exact B2)), by first | omega | (simp; done) | (simp; omega) | (have := x2 _ (by first | assumption | simp); omega) | (have hx_ := x2 (w.heap.size + 1 + 1) (by simp); simp; omega), fun o => by simp [*, go_sem], by simp [*, go_sem], by simp [*, go_sem], by simp [*, go_sem], by simp [*, go_sem], by simp [*, go_sem], by simp [*, go_sem]⟩ ?_
  rintro w3 ⟨B3, lt3_0, fz3, r3_0, r3_1, r3_2, r3_3, r3_4, r3_5⟩
  clear q1 s1 t1 x1 y1 q2 s2 t2 x2 y2
  have xx0 := (B3.cell (p := ⟨bb1, o1 + m, none⟩) hb1).trans x0
  have xx1 := (B3.cell (p := ⟨bb1, o1 + (m + 1), none⟩) hb1).trans x1'
  have yy0 := (B3.cell (p := ⟨bb2, o2 + m, none⟩) hb2).trans y0
  have yy1 := (B3.cell (p := ⟨bb2, o2 + (m + 1), none⟩) hb2).trans y1'
  have yy2 := (B3.cell (p := ⟨bb2, o2 + sn, none⟩) hb2).trans y2
  have W0 : IntKind.i64.wrap ((m : Int) + 1) = (m : Int) + 1 := IntWalk.i64_in _ (by omega)
  have W1 : IntKind.i64.wrap (hy * spd ss sn) = P := by rw [HP.out]; exact IntWalk.i64_in _ (by omega)
  have W2 : IntKind.i64.wrap (spd ds ((m : Int) + 1) - spd ds m) = T := by rw [HT.out]; exact IntWalk.i64_in _ (by omega)
  have W3 : IntKind.i64.wrap (co * spd ss (m : Int)) = Q := by rw [HQ.out]; exact IntWalk.i64_in _ (by omega)
  have W4 : IntKind.i64.wrap (P - Q) = P - Q := IntWalk.i64_in _ (by omega)
  have W5 : IntKind.i64.wrap (T * (P - Q)) = T * (P - Q) := IntWalk.i64_in _ (by omega)
  go_quiet (fail)
  clear W0 W1 W2 W3 W4 W5
  go_wp2_with fail
  have W1 : IntKind.i64.wrap (spd ss ((m : Int) + 1) - spd ss (m : Int)) = spd ss ((m : Int) + 1) - spd ss (m : Int) := IntWalk.i64_in _ (by omega)
  have W2 : IntKind.i64.wrap (co * (spd ss ((m : Int) + 1) - spd ss (m : Int))) = R := by rw [HR.out]; exact IntWalk.i64_in _ (by omega)
  go_quiet (fail)
  clear W1 W2
  go_wp2_with fail
  have W1 : IntKind.i64.wrap (spd ds (m : Int) + T * (P - Q) / R) = spd ds (m : Int) + T * (P - Q) / R := IntWalk.i64_in _ (by omega)
  have W2 : IntKind.i64.wrap (spd ds (m : Int) + -(-(T * (P - Q)) / R)) = spd ds (m : Int) + -(-(T * (P - Q)) / R) := IntWalk.i64_in _ (by omega)
  have nb1 : bb1 ≠ w.heap.size + 1 + 1 := by omega
  have nb2 : w.heap.size + 1 + 1 ≠ bb1 := by omega
  go_region_held3 (fun w' => w'.cell? ⟨w.heap.size, 0, none⟩ = some (.slice (some ⟨bb1, o1, none⟩) ds.length c1) ∧ w'.cell? ⟨bb1, o1 + m, none⟩ = some (.int .i64 (spd ds m))) (first | (go_keep; done) | (simp [*, go_sem]; done))
    (first
      | (go_at_call 91; refine (specFloor_any _ _ _ r0' (by omega) (by omega) (by omega)).mono ?_; rintro e w' ⟨rfl, rfl⟩)
      | (go_at_call 92; refine (specCeil_any _ _ _ r0' (by omega) (by omega) (by omega)).mono ?_; rintro e w' ⟨rfl, rfl⟩))
  clear W1 W2
  go_wp2
  refine bodyPost_ret (by simp [results, Try.results54, go_sem, *] <;> rfl) rfl ?_
  exact ⟨by rw [E1.out, E2.out, HO.out], by first | exact (by first | with_reducible exact B3 | (go_grown; done) | with_reducible exact bdrewN B3 _ | (go_grown <;> first | with_reducible exact bdrewN B3 _ | with_reducible exact B3)) | exact bdrewN B3 _⟩
set_option maxHeartbeats 4000000 in
theorem specTurnDepth_false (A1 A2 : Option Addr) (c1 c2 : Nat) (ds ss : List Int) (src co si hy l : Int) (w : World) (h : ProfAt w A1 c1 A2 c2 ds ss) (ho : vaE 2 ds ss src co si hy l false = 0) :
    Calls Try.prog 54 #[profV A1 ds.length c1 A2 ss.length c2, .int .i64 src, dirV co si hy, .int .i64 l, .bool false] w fun e w' => e = .returned (.tuple #[ivV (tLo ds ss src co si hy l false) (tHi ds ss src co si hy l false), .int .i64 (vaE 2 ds ss src co si hy l false)]) ∧ Below w.heap.size w w' := by
  obtain ⟨h0, hv⟩ := va_ok ho
  obtain ⟨hcn, hcf⟩ := vd_two hv
  obtain ⟨r, l0, l1, -, -⟩ := arc_ok h0
  have hE : (arcE ds ss src co si hy l == 0) = true := by rw [h0]; rfl
  have hE2 : (arcE ds ss src co si hy l != 0) = false := by rw [h0]; rfl
  obtain ⟨n0, n1⟩ := near_bd false l0 l1
  obtain ⟨f0, f1⟩ := far_bd false l0 l1
  have tk := tdOk r n0 n1 f0 f1 hcn hcf
  have e1 : tLo ds ss src co si hy l false = tdLo ds ss src co hy (nearK l false) (farK l false) := by unfold tLo; rw [if_pos ho]
  have e2 : tHi ds ss src co si hy l false = tdHi ds ss src co hy (nearK l false) (farK l false) := by unfold tHi; rw [if_pos ho]
  have hV : ∀ w, ProfAt w A1 c1 A2 c2 ds ss → Calls Try.prog 89 #[profV A1 ds.length c1 A2 ss.length c2, .int .i64 src, dirV co si hy, .int .i64 l, .bool false] w fun e w' => e = .returned (.int .i64 2) ∧ Below w.heap.size w w' := fun w hh => hv ▸ l06Verdict_any A1 A2 c1 c2 ds ss src co si hy l false w hh r l0 l1
  have ll := r.l1; have lc := r.l2; have ld := r.l3
  have hEnds : ∀ w, Calls Try.prog 90 #[.int .i64 l, .bool false] w fun e w' => e = .returned (.tuple #[.int .i64 (nearK l false), .int .i64 (farK l false)]) ∧ w = w' := fun w => l06Ends_any l false w l0 (by omega)
  have sr0 := r.s0; have sr1 := r.s1
  have u0 := r.up l l0 l1
  have dn0 := r.dp l l0 (by omega); have dn1 := r.dp (l + 1) (by omega) l1
  have ssl := r.sp l l0 (by omega); have ssl1 := r.sp (l + 1) (by omega) l1
  have cc0 := r.c0; have cc1 := r.c1; have ch := r.h1
  clear hv
  obtain ⟨m, rfl⟩ := Int.eq_ofNat_of_zero_le l0
  obtain ⟨sn, rfl⟩ := Int.eq_ofNat_of_zero_le sr0
  have hnk : nearK (m : Int) false = ((m : Int) + 1) := rfl
  have hfk : farK (m : Int) false = (m : Int) := rfl
  rw [hnk, hfk] at tk e1 e2
  simp only [hnk, hfk] at hEnds
  unfold tdLo tdN tdR at e1
  unfold tdHi tdN tdR at e2
  rw [if_neg (show ¬ (m : Int) + 1 < (m : Int) by omega)] at e1 e2
  rw [Int.sub_neg] at e1
  have eT : ((spd ds (m : Int) - spd ds ((m : Int) + 1)).natAbs : Int) = spd ds ((m : Int) + 1) - spd ds m := by omega
  have eR : co * spd ss (m : Int) - co * spd ss ((m : Int) + 1) = co * (spd ss (m : Int) - spd ss ((m : Int) + 1)) := by rw [Int.mul_sub]
  rw [eT, eR] at tk e1 e2
  obtain ⟨bb1, o1, rfl, hb1, q1⟩ := h.1.spd (by omega)
  obtain ⟨bb2, o2, rfl, hb2, q2⟩ := h.2.spd (by omega)
  have x0 := q1 m (by omega); have x1' := q1 (m + 1) (by omega)
  have y0 := q2 m (by omega); have y1' := q2 (m + 1) (by omega); have y2 := q2 sn (by omega)
  rw [show ((m + 1 : Nat) : Int) = (m : Int) + 1 by omega] at x1' y1'
  have k0 : (0 : Int) ≤ m := by omega
  have k2 : (m : Int) < ds.length := by omega
  have k3 : (m : Int) < ss.length := by omega
  have k4 : (0 : Int) ≤ (m : Int) + 1 := by omega
  have k5 : (m : Int) + 1 < ds.length := by omega
  have k6 : (m : Int) + 1 < ss.length := by omega
  have k7 : ((m : Int) + 1).toNat = m + 1 := by omega
  obtain ⟨p0, p1, qq0, qq1, r0', r1', v0, t0, t1, nn0, nn1, -, -, -, -⟩ := tk
  clear q1 q2 hnk hfk eT eR n0 n1 f0 f1 hcn hcf
  generalize hP : hy * spd ss sn = P at *
  generalize hQ : co * spd ss ((m : Int) + 1) = Q at *
  generalize hT : spd ds ((m : Int) + 1) - spd ds m = T at *
  generalize hR : co * (spd ss (m : Int) - spd ss ((m : Int) + 1)) = R at *
  obtain ⟨g1, g2⟩ := div_bd (a := T * (P - Q)) (b := R) (M := 1700000000000000) r0' (by omega) nn1
  obtain ⟨g3, g4⟩ := div_bd (a := -(T * (P - Q))) (b := R) (M := 1700000000000000) r0' (by omega) (by omega)
  have H := Lib.hid h; have HO := Lib.hid ho; have E1 := Lib.hid e1; have E2 := Lib.hid e2; have HP := Lib.hid hP; have HQ := Lib.hid hQ; have HR := Lib.hid hR; have HT := Lib.hid hT; have HV := Lib.hid hV; have HE := Lib.hid hEnds
  clear h r e1 e2 hP hQ hR hT hV hEnds h0 ho
  go_enter Try.func54, Try.ntmps54
  go_wp2_with (first
    | (go_at_call 88; refine (l06Code_any _ _ _ _ _ _ _ _ _ _ _ _ ⟨(H.out.1.below (B := w.heap.size) (by first | exact Below.refl _ _ | (go_grown; done) | exact bdrewN (by go_grown) _) (Nat.le_refl _)), (H.out.2.below (B := w.heap.size) (by first | exact Below.refl _ _ | (go_grown; done) | exact bdrewN (by go_grown) _) (Nat.le_refl _))⟩).mono ?_; rintro e w1 ⟨rfl, hb1⟩; obtain ⟨B1, hz1, q1, s1, t1, x1, y1, z1⟩ := bkeep (w := w) [w.heap.size, w.heap.size + 1, w.heap.size + 2] (by first | (simp; done) | (simp; omega)) (by first | (go_grown; done) | exact bdrewN (by go_grown) _) hb1; (try simp at hz1); clear hb1)
    | (go_at_call 89; refine (HV.out _ ⟨(H.out.1.below (B := w.heap.size) (by first | exact Below.refl _ _ | (go_grown; done) | exact bdrewN (by go_grown) _) (Nat.le_refl _)), (H.out.2.below (B := w.heap.size) (by first | exact Below.refl _ _ | (go_grown; done) | exact bdrewN (by go_grown) _) (Nat.le_refl _))⟩).mono ?_; rintro e w2 ⟨rfl, hb2⟩; obtain ⟨B2, hz2, q2, s2, t2, x2, y2, z2⟩ := bkeep (w := w) [w.heap.size, w.heap.size + 1, w.heap.size + 2] (by first | (simp; done) | (simp; omega)) (by first | (go_grown; done) | exact bdrewN (by go_grown) _) hb2; (try simp at hz2); clear hb2)
    | (go_at_call 90; refine (HE.out _).mono ?_; rintro e w' ⟨rfl, rfl⟩))
  refine genS (S := fun w' => Below w.heap.size w w' ∧ w.heap.size + 1 + 1 < w'.heap.size ∧ (∀ o, w'.frozen? ⟨w.heap.size + 1 + 1, o, none⟩ = false) ∧ w'.cell? ⟨w.heap.size, 0, none⟩ = some (.slice (some ⟨bb1, o1, none⟩) ds.length c1) ∧ w'.cell? ⟨w.heap.size, 1, none⟩ = some (.slice (some ⟨bb2, o2, none⟩) ss.length c2) ∧ w'.cell? ⟨w.heap.size + 1, 0, none⟩ = some (.int .i64 co) ∧ w'.cell? ⟨w.heap.size + 1, 2, none⟩ = some (.int .i64 hy) ∧ w'.cell? ⟨w.heap.size + 1 + 1, 0, none⟩ = some (.int .i64 0) ∧ w'.cell? ⟨w.heap.size + 1 + 1, 1, none⟩ = some (.int .i64 0)) ⟨(by first | with_reducible exact B2 | (go_grown; done) | with_reducible exact bdrewN B2 _ | (go_grown <;> first | with_reducible exact bdrewN B2 _ | with_reducible exact B2)), by first | omega | (simp; done) | (simp; omega) | (have := x2 _ (by first | assumption | simp); omega) | (have hx_ := x2 (w.heap.size + 1 + 1) (by simp); simp; omega), fun o => by simp [*, go_sem], by simp [*, go_sem], by simp [*, go_sem], by simp [*, go_sem], by simp [*, go_sem], by simp [*, go_sem], by simp [*, go_sem]⟩ ?_
  rintro w3 ⟨B3, lt3_0, fz3, r3_0, r3_1, r3_2, r3_3, r3_4, r3_5⟩
  clear q1 s1 t1 x1 y1 q2 s2 t2 x2 y2
  have xx0 := (B3.cell (p := ⟨bb1, o1 + m, none⟩) hb1).trans x0
  have xx1 := (B3.cell (p := ⟨bb1, o1 + (m + 1), none⟩) hb1).trans x1'
  have yy0 := (B3.cell (p := ⟨bb2, o2 + m, none⟩) hb2).trans y0
  have yy1 := (B3.cell (p := ⟨bb2, o2 + (m + 1), none⟩) hb2).trans y1'
  have yy2 := (B3.cell (p := ⟨bb2, o2 + sn, none⟩) hb2).trans y2
  have W0 : IntKind.i64.wrap ((m : Int) + 1) = (m : Int) + 1 := IntWalk.i64_in _ (by omega)
  have W1 : IntKind.i64.wrap (hy * spd ss sn) = P := by rw [HP.out]; exact IntWalk.i64_in _ (by omega)
  have W2 : IntKind.i64.wrap (spd ds ((m : Int) + 1) - spd ds m) = T := by rw [HT.out]; exact IntWalk.i64_in _ (by omega)
  have W3 : IntKind.i64.wrap (co * spd ss ((m : Int) + 1)) = Q := by rw [HQ.out]; exact IntWalk.i64_in _ (by omega)
  have W4 : IntKind.i64.wrap (P - Q) = P - Q := IntWalk.i64_in _ (by omega)
  have W5 : IntKind.i64.wrap (T * (P - Q)) = T * (P - Q) := IntWalk.i64_in _ (by omega)
  go_quiet (fail)
  clear W0 W1 W2 W3 W4 W5
  go_wp2_with fail
  have W1 : IntKind.i64.wrap (spd ss (m : Int) - spd ss ((m : Int) + 1)) = spd ss (m : Int) - spd ss ((m : Int) + 1) := IntWalk.i64_in _ (by omega)
  have W2 : IntKind.i64.wrap (co * (spd ss (m : Int) - spd ss ((m : Int) + 1))) = R := by rw [HR.out]; exact IntWalk.i64_in _ (by omega)
  go_quiet (fail)
  clear W1 W2
  go_wp2_with fail
  have W1 : IntKind.i64.wrap (spd ds ((m : Int) + 1) + -(T * (P - Q)) / R) = spd ds ((m : Int) + 1) + -(T * (P - Q)) / R := IntWalk.i64_in _ (by omega)
  have W2 : IntKind.i64.wrap (spd ds ((m : Int) + 1) - T * (P - Q) / R) = spd ds ((m : Int) + 1) - T * (P - Q) / R := IntWalk.i64_in _ (by omega)
  have nb1 : bb1 ≠ w.heap.size + 1 + 1 := by omega
  have nb2 : w.heap.size + 1 + 1 ≠ bb1 := by omega
  go_region_held3 (fun w' => w'.cell? ⟨w.heap.size, 0, none⟩ = some (.slice (some ⟨bb1, o1, none⟩) ds.length c1) ∧ w'.cell? ⟨bb1, o1 + (m + 1), none⟩ = some (.int .i64 (spd ds ((m : Int) + 1)))) (first | (go_keep; done) | (simp [*, go_sem]; done))
    (first
      | (go_at_call 91; refine (specFloor_any _ _ _ r0' (by omega) (by omega) (by omega)).mono ?_; rintro e w' ⟨rfl, rfl⟩)
      | (go_at_call 92; refine (specCeil_any _ _ _ r0' (by omega) (by omega) (by omega)).mono ?_; rintro e w' ⟨rfl, rfl⟩))
  clear W1 W2
  go_wp2
  refine bodyPost_ret (by simp [results, Try.results54, go_sem, *] <;> rfl) rfl ?_
  exact ⟨by rw [E1.out, E2.out, HO.out], by first | exact (by first | with_reducible exact B3 | (go_grown; done) | with_reducible exact bdrewN B3 _ | (go_grown <;> first | with_reducible exact bdrewN B3 _ | with_reducible exact B3)) | exact bdrewN B3 _⟩
set_option maxHeartbeats 2000000 in
theorem specTurnDepth_any (A1 A2 : Option Addr) (c1 c2 : Nat) (ds ss : List Int) (src co si hy l : Int) (ab : Bool) (w : World) (h : ProfAt w A1 c1 A2 c2 ds ss) :
    Calls Try.prog 54 #[profV A1 ds.length c1 A2 ss.length c2, .int .i64 src, dirV co si hy, .int .i64 l, .bool ab] w fun e w' => e = .returned (.tuple #[ivV (tLo ds ss src co si hy l ab) (tHi ds ss src co si hy l ab), .int .i64 (vaE 2 ds ss src co si hy l ab)]) ∧ Below w.heap.size w w' := by
  by_cases ho : vaE 2 ds ss src co si hy l ab = 0
  · cases ab
    · exact specTurnDepth_false A1 A2 c1 c2 ds ss src co si hy l w h ho
    · exact specTurnDepth_true A1 A2 c1 c2 ds ss src co si hy l w h ho
  · have e1 : tLo ds ss src co si hy l ab = 0 := by unfold tLo; rw [if_neg ho]
    have e2 : tHi ds ss src co si hy l ab = 0 := by unfold tHi; rw [if_neg ho]
    by_cases h0 : arcE ds ss src co si hy l = 0
    · obtain ⟨hv, hc⟩ := va_other h0 ho
      obtain ⟨r, l0, l1, -, -⟩ := arc_ok h0
      have hE : (arcE ds ss src co si hy l == 0) = true := by rw [h0]; rfl
      have hvb : (vdI ss src co hy (nearK l ab) (farK l ab) != 2) = true := by simpa using hv
      have H := Lib.hid h; have R := Lib.hid r; have HC := Lib.hid hc; have E1 := Lib.hid e1; have E2 := Lib.hid e2; clear h r ho h0 hv hc e1 e2
      go_enter Try.func54, Try.ntmps54
      go_wp2_with (first
        | (go_at_call 88; refine (l06Code_any _ _ _ _ _ _ _ _ _ _ _ _ ⟨(H.out.1.below (B := w.heap.size) (by first | exact Below.refl _ _ | (go_grown; done) | exact bdrewN (by go_grown) _) (Nat.le_refl _)), (H.out.2.below (B := w.heap.size) (by first | exact Below.refl _ _ | (go_grown; done) | exact bdrewN (by go_grown) _) (Nat.le_refl _))⟩).mono ?_; rintro e w1 ⟨rfl, hb1⟩; obtain ⟨B1, hz1, q1, s1, t1, x1, y1, z1⟩ := bkeep (w := w) [w.heap.size, w.heap.size + 1, w.heap.size + 2] (by first | (simp; done) | (simp; omega)) (by first | (go_grown; done) | exact bdrewN (by go_grown) _) hb1; (try simp at hz1); clear hb1)
        | (go_at_call 89; refine (l06Verdict_any _ _ _ _ _ _ _ _ _ _ _ _ _ ⟨(H.out.1.below (B := w.heap.size) (by first | exact Below.refl _ _ | (go_grown; done) | exact bdrewN (by go_grown) _) (Nat.le_refl _)), (H.out.2.below (B := w.heap.size) (by first | exact Below.refl _ _ | (go_grown; done) | exact bdrewN (by go_grown) _) (Nat.le_refl _))⟩ R.out l0 l1).mono ?_; rintro e w2 ⟨rfl, hb2⟩; obtain ⟨B2, hz2, q2, s2, t2, x2, y2, z2⟩ := bkeep (w := w) [w.heap.size, w.heap.size + 1, w.heap.size + 2] (by first | (simp; done) | (simp; omega)) (by first | (go_grown; done) | exact bdrewN (by go_grown) _) hb2; (try simp at hz2); clear hb2))
      have d0 : w2.cell? ⟨w.heap.size + 1 + 1, 0, none⟩ = some (.int .i64 0) := by simp [*, go_sem]
      have d1 : w2.cell? ⟨w.heap.size + 1 + 1, 1, none⟩ = some (.int .i64 0) := by simp [*, go_sem]
      clear q1 q2
      refine bodyPost_ret (by simp [results, Try.results54, go_sem, *] <;> rfl) rfl ?_
      exact ⟨by rw [E1.out, E2.out, HC.out], (by first | with_reducible exact B2 | (go_grown; done) | with_reducible exact bdrewN B2 _ | (go_grown <;> first | with_reducible exact bdrewN B2 _ | with_reducible exact B2))⟩
    · have hE : (arcE ds ss src co si hy l == 0) = false := by simpa using h0
      have hE2 : (arcE ds ss src co si hy l != 0) = true := by simpa using h0
      have hc := va_bad (v := 2) (ab := ab) h0
      have H := Lib.hid h; have HC := Lib.hid hc; have E1 := Lib.hid e1; have E2 := Lib.hid e2; clear h ho h0 hc e1 e2
      go_enter Try.func54, Try.ntmps54
      go_wp2_with (go_at_call 88; refine (l06Code_any _ _ _ _ _ _ _ _ _ _ _ _ ⟨(H.out.1.below (B := w.heap.size) (by first | exact Below.refl _ _ | (go_grown; done) | exact bdrewN (by go_grown) _) (Nat.le_refl _)), (H.out.2.below (B := w.heap.size) (by first | exact Below.refl _ _ | (go_grown; done) | exact bdrewN (by go_grown) _) (Nat.le_refl _))⟩).mono ?_; rintro e w1 ⟨rfl, hb1⟩; obtain ⟨B1, hz1, q1, s1, t1, x1, y1, z1⟩ := bkeep (w := w) [w.heap.size, w.heap.size + 1, w.heap.size + 2] (by first | (simp; done) | (simp; omega)) (by first | (go_grown; done) | exact bdrewN (by go_grown) _) hb1; (try simp at hz1); clear hb1)
      have d0 : w1.cell? ⟨w.heap.size + 1 + 1, 0, none⟩ = some (.int .i64 0) := by simp [*, go_sem]
      have d1 : w1.cell? ⟨w.heap.size + 1 + 1, 1, none⟩ = some (.int .i64 0) := by simp [*, go_sem]
      clear q1
      refine bodyPost_ret (by simp [results, Try.results54, go_sem, *] <;> rfl) rfl ?_
      exact ⟨by rw [E1.out, E2.out, HC.out], (by first | with_reducible exact B1 | (go_grown; done) | with_reducible exact bdrewN B1 _ | (go_grown <;> first | with_reducible exact bdrewN B1 _ | with_reducible exact B1))⟩
end Go.Proofs.Ytopggkomkfjbfaa
