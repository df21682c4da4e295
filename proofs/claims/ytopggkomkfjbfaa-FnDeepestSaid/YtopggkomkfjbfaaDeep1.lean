/- DeepestOf, by the program. -/
import Derived.Test.YtopggkomkfjbfaaDeep0
import Derived.BigRegion
import Derived.Deep.Cut
import Derived.Deep.DeepCutAuto
namespace Go.Proofs.Ytopggkomkfjbfaa
set_option linter.unusedSimpArgs false
set_option linter.unusedVariables false
open Go.RowKit

theorem rsC_le {ds ss : List Int} {src co hy : Int} {x : Rs} {m k : Nat} (h : rsC ds ss src co hy x m = 0) (hk : k ≤ m) : rsC ds ss src co hy x k = 0 := by
  induction m with
  | zero => obtain rfl : k = 0 := by omega
            exact h
  | succ m ih =>
    rw [rsC] at h
    by_cases h0 : rsC ds ss src co hy x m = 0
    · rcases Nat.lt_or_ge m k with h1 | h1
      · obtain rfl : k = m + 1 := by omega
        rw [rsC, if_pos h0]
        rwa [if_pos h0] at h
      · exact ih h0 h1
    · rw [if_neg h0] at h; exact absurd h h0
set_option maxHeartbeats 8000000 in
theorem implDeepestOf_no (A1 A2 : Option Addr) (c1 c2 : Nat) (ds ss : List Int) (src co si hy n : Int) (w : World) (h : ProfAt w A1 c1 A2 c2 ds ss) (hc : trCo ds ss src co si hy n ≠ 0) :
    Calls Try.prog 20 #[profV A1 ds.length c1 A2 ss.length c2, .int .i64 src, dirV co si hy, .int .i64 n] w fun e w' =>
      e = .returned (.tuple #[ivV 0 0, .int .i64 (trCo ds ss src co si hy n)]) ∧ Below w.heap.size w w' := by
  have hE2 : (trCo ds ss src co si hy n != 0) = true := by simpa using hc
  have H := Lib.hid h; have HC := Lib.hid hc; clear h hc
  go_enter Try.func20, Try.ntmps20
  go_wp2_with (go_at_call 55; refine (traceOf_no _ _ _ _ _ _ _ _ _ _ _ _ ⟨(H.out.1.below (B := w.heap.size) (by first | exact Below.refl _ _ | (go_grown; done) | exact bdrewN (by go_grown) _) (Nat.le_refl _)), (H.out.2.below (B := w.heap.size) (by first | exact Below.refl _ _ | (go_grown; done) | exact bdrewN (by go_grown) _) (Nat.le_refl _))⟩ HC.out).mono ?_; rintro e w1 ⟨⟨r0, r1, r2, r3, r4, r5, r6, r7, r8, r9, rfl⟩, hb1⟩; obtain ⟨B1, hz1, q1, s1, t1, x1, y1, z1⟩ := bkeep (w := w) [w.heap.size, w.heap.size + 1, w.heap.size + 2] (by first | (simp; done) | (simp; omega)) (by first | (go_grown; done) | exact bdrewN (by go_grown) _) hb1; (try simp at hz1); clear hb1)
  refine bodyPost_ret (by simp [results, Try.results20, go_sem, *] <;> rfl) rfl ?_
  refine ⟨rfl, ?_⟩
  go_grown
set_option maxHeartbeats 8000000 in
theorem implDeepestOf_ok (A1 A2 : Option Addr) (c1 c2 : Nat) (ds ss : List Int) (src co si hy : Int) (m : Nat) (w : World) (h : ProfAt w A1 c1 A2 c2 ds ss) (r : RayOk ds ss src co si hy) (hm : m ≤ 100) (hr : rsC ds ss src co hy (rs0 src si) m = 0) :
    Calls Try.prog 20 #[profV A1 ds.length c1 A2 ss.length c2, .int .i64 src, dirV co si hy, .int .i64 (m : Int)] w fun e w' =>
      e = .returned (.tuple #[ivV (dpLo ds ss src co hy (rs0 src si) m) (dpHi ds ss src co hy (rs0 src si) m), .int .i64 0]) ∧ Below w.heap.size w w' := by
  have hn := Nat.le_trans h.1.1 h.1.2.1
  have l0 := r.l0; have l1 := r.l1; have l2 := r.l2; have l3 := r.l3; have s0 := r.s0; have s1 := r.s1
  have hF := rs_first r
  have H := Lib.hid h; have R := Lib.hid r; have HR := Lib.hid hr; have HF := Lib.hid hF; clear h r hr hF
  have TRC : ∀ w, ProfAt w A1 c1 A2 c2 ds ss → _ := fun w h => traceOf_ok A1 A2 c1 c2 ds ss src co si hy m w h R.out hm HR.out
  have TR := Lib.hid TRC; clear TRC
  obtain ⟨bb, oo, rfl, hbb, qq⟩ := H.out.1.spd (by omega)
  have QQ := Lib.hid qq; clear qq
  obtain ⟨ks, rfl⟩ := Int.eq_ofNat_of_zero_le s0
  have hks : ks < ds.length := by omega
  have cS := QQ.out ks hks
  go_enter Try.func20, Try.ntmps20
  go_upto_region 4 with (go_at_call 55; refine (TR.out _ ⟨(H.out.1.below (B := w.heap.size) (by first | exact Below.refl _ _ | (go_grown; done) | exact bdrewN (by go_grown) _) (Nat.le_refl _)), (H.out.2.below (B := w.heap.size) (by first | exact Below.refl _ _ | (go_grown; done) | exact bdrewN (by go_grown) _) (Nat.le_refl _))⟩).mono ?_; rintro e w1 ⟨⟨Ae, ce, As, cs, Ad, cd, rfl, R1, R2, R3⟩, hb1⟩; clear R3; have V1 := Lib.hid R1.at; have V2 := Lib.hid R2.at; clear R1 R2; obtain ⟨B1, hz1, q1, s1, t1, x1, y1, z1⟩ := bkeep (w := w) [w.heap.size, w.heap.size + 1, w.heap.size + 2] (by first | (simp; done) | (simp; omega)) (by first | (go_grown; done) | exact bdrewN (by go_grown) _) hb1; (try simp at hz1); clear hb1)
  have lbb : bb < w1.heap.size := by have := B1.size; omega
  have lbb1 : bb < w1.heap.size + 1 := by omega
  have lbb2 : bb < w1.heap.size + 1 + 1 := by omega
  have la1_0 : w.heap.size < w1.heap.size := by omega
  have lb1_0 : w.heap.size < w1.heap.size + 1 := by omega
  have lc1_0 : w.heap.size < w1.heap.size + 1 + 1 := by omega
  have la1_1 : w.heap.size + 1 + 1 < w1.heap.size := by omega
  have lb1_1 : w.heap.size + 1 + 1 < w1.heap.size + 1 := by omega
  have lc1_1 : w.heap.size + 1 + 1 < w1.heap.size + 1 + 1 := by omega
  have dS1 := (bold B1 bb (oo + ks) hbb).trans cS
  have ne1 : (w.heap.size + 1 + 1 = w1.heap.size) = False := eq_false (by omega)
  have nf1 : (w1.heap.size = w.heap.size + 1 + 1) = False := eq_false (by omega)
  have ne2 : (w.heap.size + 1 + 1 = w1.heap.size + 1) = False := eq_false (by omega)
  have nf2 : (w1.heap.size + 1 = w.heap.size + 1 + 1) = False := eq_false (by omega)
  refine genS (S := fun w' => Below (w.heap.size) w w' ∧ w.heap.size < w'.heap.size ∧ w.heap.size + 1 + 1 < w'.heap.size ∧ w1.heap.size < w'.heap.size ∧ w1.heap.size + 1 < w'.heap.size ∧ bb < w'.heap.size ∧ w'.cell? ⟨w.heap.size, 0, none⟩ = some (.slice (some ⟨bb, oo, none⟩) ds.length c1) ∧ w'.cell? ⟨w.heap.size, 1, none⟩ = some (.slice A2 ss.length c2) ∧ w'.cell? ⟨w.heap.size + 1 + 1, 0, none⟩ = some (.int .i64 0) ∧ w'.cell? ⟨w.heap.size + 1 + 1, 1, none⟩ = some (.int .i64 0) ∧ w'.cell? ⟨w1.heap.size, 0, none⟩ = some (.slice (some ⟨bb, oo, none⟩) ds.length c1) ∧ w'.cell? ⟨w1.heap.size, 1, none⟩ = some (.slice A2 ss.length c2) ∧ w'.cell? ⟨w1.heap.size, 2, none⟩ = some (.int .i64 ↑ks) ∧ w'.cell? ⟨w1.heap.size, 3, none⟩ = some (.int .i64 co) ∧ w'.cell? ⟨w1.heap.size, 4, none⟩ = some (.int .i64 si) ∧ w'.cell? ⟨w1.heap.size, 5, none⟩ = some (.int .i64 hy) ∧ w'.cell? ⟨w1.heap.size + 1, 0, none⟩ = some (.slice Ae m ce) ∧ w'.cell? ⟨w1.heap.size + 1, 1, none⟩ = some (.slice As m cs) ∧ w'.cell? ⟨w1.heap.size + 1, 2, none⟩ = some (.slice Ad m cd) ∧ (∀ o, w'.frozen? ⟨w.heap.size + 1 + 1, o, none⟩ = false) ∧ IntsAt w' Ae ce (trE ds ss ↑ks co hy (rs0 ↑ks si) m) ∧ KAt w' As cs 4 ((trS ds ss ↑ks co hy (rs0 ↑ks si) m).map rsCell) ∧ w'.cell? ⟨bb, oo + ks, none⟩ = some (.int .i64 (spd ds ↑ks))) ⟨(by first | with_reducible exact B1 | (go_grown; done) | with_reducible exact bdrewN B1 _ | (go_grown <;> first | with_reducible exact bdrewN B1 _ | with_reducible exact B1)), by first | omega | (simp; done) | (simp; omega), by first | omega | (simp; done) | (simp; omega), by first | omega | (simp; done) | (simp; omega), by first | omega | (simp; done) | (simp; omega), by first | omega | (simp; done) | (simp; omega), by simp [*, go_sem], by simp [*, go_sem], by simp [*, go_sem], by simp [*, go_sem], by simp [*, go_sem], by simp [*, go_sem], by simp [*, go_sem], by simp [*, go_sem], by simp [*, go_sem], by simp [*, go_sem], by simp [*, go_sem], by simp [*, go_sem], by simp [*, go_sem], fun o => by simp [*, go_sem], V1.out.below (B := w1.heap.size) (by go_grown) (Nat.le_refl _), V2.out.below (B := w1.heap.size) (by go_grown) (Nat.le_refl _), by simp [*, go_sem]⟩ ?_
  clear q1 s1 t1 x1 y1 V1 V2 dS1
  rintro w2 ⟨B2, lt2_0, lt2_1, lt2_2, lt2_3, lt2_4, c2_0, c2_1, c2_2, c2_3, c2_4, c2_5, c2_6, c2_7, c2_8, c2_9, c2_10, c2_11, c2_12, fz2_0, GE, GS, dS⟩
  have z2 : w.heap.size ≤ w2.heap.size := B2.size
  have VE := Lib.hid GE; have VS := Lib.hid GS; have HB := Lib.hid B2; clear GE GS B2
  have nbw1 : bb ≠ w.heap.size := by omega
  have nbw2 : bb ≠ w2.heap.size := by omega
  go_region
  have la2_0 : w.heap.size < w2.heap.size := by omega
  have lb2_0 : w.heap.size < w2.heap.size + 1 := by omega
  have lc2_0 : w.heap.size < w2.heap.size + 1 + 1 := by omega
  have la2_1 : w.heap.size + 1 + 1 < w2.heap.size := by omega
  have lb2_1 : w.heap.size + 1 + 1 < w2.heap.size + 1 := by omega
  have lc2_1 : w.heap.size + 1 + 1 < w2.heap.size + 1 + 1 := by omega
  have la2_2 : w1.heap.size < w2.heap.size := by omega
  have lb2_2 : w1.heap.size < w2.heap.size + 1 := by omega
  have lc2_2 : w1.heap.size < w2.heap.size + 1 + 1 := by omega
  have la2_3 : w1.heap.size + 1 < w2.heap.size := by omega
  have lb2_3 : w1.heap.size + 1 < w2.heap.size + 1 := by omega
  have lc2_3 : w1.heap.size + 1 < w2.heap.size + 1 + 1 := by omega
  have la2_4 : bb < w2.heap.size := by omega
  have lb2_4 : bb < w2.heap.size + 1 := by omega
  have lc2_4 : bb < w2.heap.size + 1 + 1 := by omega
  refine genS (S := fun w' => Below (w2.heap.size) w2 w' ∧ w2.heap.size < w'.heap.size ∧ w'.cell? ⟨w.heap.size, 0, none⟩ = some (.slice (some ⟨bb, oo, none⟩) ds.length c1) ∧ w'.cell? ⟨w.heap.size, 1, none⟩ = some (.slice A2 ss.length c2) ∧ w'.cell? ⟨w1.heap.size, 0, none⟩ = some (.slice (some ⟨bb, oo, none⟩) ds.length c1) ∧ w'.cell? ⟨w1.heap.size, 1, none⟩ = some (.slice A2 ss.length c2) ∧ w'.cell? ⟨w1.heap.size, 2, none⟩ = some (.int .i64 ↑ks) ∧ w'.cell? ⟨w1.heap.size, 3, none⟩ = some (.int .i64 co) ∧ w'.cell? ⟨w1.heap.size, 4, none⟩ = some (.int .i64 si) ∧ w'.cell? ⟨w1.heap.size, 5, none⟩ = some (.int .i64 hy) ∧ w'.cell? ⟨w1.heap.size + 1, 0, none⟩ = some (.slice Ae m ce) ∧ w'.cell? ⟨w1.heap.size + 1, 1, none⟩ = some (.slice As m cs) ∧ w'.cell? ⟨w1.heap.size + 1, 2, none⟩ = some (.slice Ad m cd) ∧ w'.cell? ⟨w2.heap.size, 0, none⟩ = some (.int .i64 (spd ds ↑ks)) ∧ w'.cell? ⟨w2.heap.size, 1, none⟩ = some (.int .i64 (spd ds ↑ks)) ∧ (∀ o, w'.frozen? ⟨w2.heap.size, o, none⟩ = false)) ⟨by go_grown, by first | omega | (simp; done) | (simp; omega), by simp [*, go_sem], by simp [*, go_sem], by simp [*, go_sem], by simp [*, go_sem], by simp [*, go_sem], by simp [*, go_sem], by simp [*, go_sem], by simp [*, go_sem], by simp [*, go_sem], by simp [*, go_sem], by simp [*, go_sem], by simp [*, go_sem], by simp [*, go_sem], fun o => by simp [*, go_sem]⟩ ?_
  clear lt2_0 lt2_1 lt2_2 lt2_3 lt2_4
  rintro w3 ⟨B3, lt3_0, c3_0, c3_1, c3_2, c3_3, c3_4, c3_5, c3_6, c3_7, c3_8, c3_9, c3_10, c3_11, c3_12, fz3_0⟩
  have z3 : w2.heap.size ≤ w3.heap.size := B3.size
  have HB3 := Lib.hid B3; clear B3
  go_upto_region 6 with (go_at_call 56; refine (first_any _ _ _ _ _ _ _ _ _ _ _).mono ?_; rintro e w4 ⟨rfl, hb4⟩; obtain ⟨B4, hz4, q4, s4, t4, x4, y4, z4⟩ := bkeep (w := w3) [w.heap.size, w1.heap.size, w1.heap.size+1, w2.heap.size] (by first | (simp; done) | (simp; omega)) (by first | (go_grown; done) | exact bdrewN (by go_grown) _) hb4; (try simp at hz4); clear hb4)
  have C4 := HB3.out.trans (B4.mono (show w2.heap.size ≤ w3.heap.size by omega))
  have la4_0 : w.heap.size < w4.heap.size := by omega
  have lb4_0 : w.heap.size < w4.heap.size + 1 := by omega
  have lc4_0 : w.heap.size < w4.heap.size + 1 + 1 := by omega
  have la4_1 : w1.heap.size < w4.heap.size := by omega
  have lb4_1 : w1.heap.size < w4.heap.size + 1 := by omega
  have lc4_1 : w1.heap.size < w4.heap.size + 1 + 1 := by omega
  have la4_2 : w1.heap.size + 1 < w4.heap.size := by omega
  have lb4_2 : w1.heap.size + 1 < w4.heap.size + 1 := by omega
  have lc4_2 : w1.heap.size + 1 < w4.heap.size + 1 + 1 := by omega
  have la4_3 : w2.heap.size < w4.heap.size := by omega
  have lb4_3 : w2.heap.size < w4.heap.size + 1 := by omega
  have lc4_3 : w2.heap.size < w4.heap.size + 1 + 1 := by omega
  refine genS (S := fun w' => Below (w2.heap.size) w2 w' ∧ w4.heap.size < w'.heap.size ∧ w'.cell? ⟨w.heap.size, 0, none⟩ = some (.slice (some ⟨bb, oo, none⟩) ds.length c1) ∧ w'.cell? ⟨w.heap.size, 1, none⟩ = some (.slice A2 ss.length c2) ∧ w'.cell? ⟨w1.heap.size, 0, none⟩ = some (.slice (some ⟨bb, oo, none⟩) ds.length c1) ∧ w'.cell? ⟨w1.heap.size, 1, none⟩ = some (.slice A2 ss.length c2) ∧ w'.cell? ⟨w1.heap.size, 2, none⟩ = some (.int .i64 ↑ks) ∧ w'.cell? ⟨w1.heap.size, 3, none⟩ = some (.int .i64 co) ∧ w'.cell? ⟨w1.heap.size, 4, none⟩ = some (.int .i64 si) ∧ w'.cell? ⟨w1.heap.size, 5, none⟩ = some (.int .i64 hy) ∧ w'.cell? ⟨w1.heap.size + 1, 0, none⟩ = some (.slice Ae m ce) ∧ w'.cell? ⟨w1.heap.size + 1, 1, none⟩ = some (.slice As m cs) ∧ w'.cell? ⟨w1.heap.size + 1, 2, none⟩ = some (.slice Ad m cd) ∧ w'.cell? ⟨w2.heap.size, 0, none⟩ = some (.int .i64 (spd ds ↑ks)) ∧ w'.cell? ⟨w2.heap.size, 1, none⟩ = some (.int .i64 (spd ds ↑ks)) ∧ w'.cell? ⟨w4.heap.size, 0, none⟩ = some (.int .i64 ↑ks) ∧ w'.cell? ⟨w4.heap.size, 1, none⟩ = some (.bool (decide (0 < si))) ∧ w'.cell? ⟨w4.heap.size, 2, none⟩ = some (.int .i64 0) ∧ w'.cell? ⟨w4.heap.size, 3, none⟩ = some (.int .i64 0) ∧ (∀ o, w'.frozen? ⟨w2.heap.size, o, none⟩ = false) ∧ (∀ o, w'.frozen? ⟨w4.heap.size, o, none⟩ = false)) ⟨by go_grown, by first | omega | (simp; done) | (simp; omega), by simp [*, go_sem], by simp [*, go_sem], by simp [*, go_sem], by simp [*, go_sem], by simp [*, go_sem], by simp [*, go_sem], by simp [*, go_sem], by simp [*, go_sem], by simp [*, go_sem], by simp [*, go_sem], by simp [*, go_sem], by simp [*, go_sem], by simp [*, go_sem], by simp [*, go_sem], by simp [*, go_sem], by simp [*, go_sem], by simp [*, go_sem], fun o => by simp [*, go_sem], fun o => by simp [*, go_sem]⟩ ?_
  clear q4 s4 t4 x4 y4 B4 C4
  rintro w5 ⟨B5, lt5_0, c5_0, c5_1, c5_2, c5_3, c5_4, c5_5, c5_6, c5_7, c5_8, c5_9, c5_10, c5_11, c5_12, c5_13, c5_14, c5_15, c5_16, fz5_0, fz5_1⟩
  have z5 : w2.heap.size ≤ w5.heap.size := B5.size
  have HB5 := Lib.hid B5; clear B5
  go_wp2
  go_loopw [49] (fun i wr => ∃ (k : Nat) (xk : Int) (xd : Bool) (xl xh lo hi : Int), k ≤ m ∧ i = .int .i64 k ∧ Hid (rsAt ds ss ↑ks co hy (rs0 ↑ks si) k = ⟨xk, xd, xl, xh⟩) ∧ Hid (dpLo ds ss ↑ks co hy (rs0 ↑ks si) k = lo) ∧ Hid (dpHi ds ss ↑ks co hy (rs0 ↑ks si) k = hi) ∧ Below w2.heap.size w5 wr ∧ w4.heap.size < wr.heap.size ∧ wr.cell? ⟨w2.heap.size, 0, none⟩ = some (.int .i64 lo) ∧ wr.cell? ⟨w2.heap.size, 1, none⟩ = some (.int .i64 hi) ∧ wr.cell? ⟨w4.heap.size, 0, none⟩ = some (.int .i64 xk) ∧ wr.cell? ⟨w4.heap.size, 1, none⟩ = some (.bool xd) ∧ wr.cell? ⟨w4.heap.size, 2, none⟩ = some (.int .i64 xl) ∧ wr.cell? ⟨w4.heap.size, 3, none⟩ = some (.int .i64 xh) ∧ (∀ o, wr.frozen? ⟨w2.heap.size, o, none⟩ = false) ∧ (∀ o, wr.frozen? ⟨w4.heap.size, o, none⟩ = false)) (fun i _ => m - (intOf i).toNat)
  case atStart => exact ⟨0, ↑ks, decide (0 < si), 0, 0, spd ds ↑ks, spd ds ↑ks, by omega, rfl, Lib.hid rfl, Lib.hid rfl, Lib.hid rfl, Below.refl _ _, lt5_0, c5_11, c5_12, c5_13, c5_14, c5_15, c5_16, fz5_0, fz5_1⟩
  case round =>
    obtain ⟨k, xk, xd, xl, xh, lo, hi, hk, rfl, hx, hlo, hhi, Br, lwr, o0, o1, b0, b1, b2, b3, fo, fb⟩ := hrel
    have sr : w5.heap.size ≤ wr.heap.size := Br.size
    have HBr := Lib.hid Br
    have CB : Below w2.heap.size w2 wr := HB5.out.trans Br
    have HC := Lib.hid CB
    have HW := Lib.hid (HB.out.trans (CB.mono (show w.heap.size ≤ w2.heap.size by omega)))
    have HP := Lib.hid (H.out.below HW.out (Nat.le_refl _))
    have r0 := (bAt Br (b := w.heap.size) (o := 0) (by omega)).trans c5_0
    have r1 := (bAt Br (b := w.heap.size) (o := 1) (by omega)).trans c5_1
    have r2 := (bAt Br (b := w1.heap.size) (o := 0) (by omega)).trans c5_2
    have r3 := (bAt Br (b := w1.heap.size) (o := 1) (by omega)).trans c5_3
    have r4 := (bAt Br (b := w1.heap.size) (o := 2) (by omega)).trans c5_4
    have r5 := (bAt Br (b := w1.heap.size) (o := 3) (by omega)).trans c5_5
    have r6 := (bAt Br (b := w1.heap.size) (o := 4) (by omega)).trans c5_6
    have r7 := (bAt Br (b := w1.heap.size) (o := 5) (by omega)).trans c5_7
    have r8 := (bAt Br (b := w1.heap.size + 1) (o := 0) (by omega)).trans c5_8
    have r9 := (bAt Br (b := w1.heap.size + 1) (o := 1) (by omega)).trans c5_9
    have r10 := (bAt Br (b := w1.heap.size + 1) (o := 2) (by omega)).trans c5_10
    clear c5_0 c5_1 c5_2 c5_3 c5_4 c5_5 c5_6 c5_7 c5_8 c5_9 c5_10 c5_11 c5_12 c5_13 c5_14 c5_15 c5_16 fz5_0 fz5_1 Br CB
    by_cases hlt : k < m
    · have hok := rs_at0 R.out k (rsC_le HR.out (by omega))
      have hok2 := rs_at0 R.out (k + 1) (rsC_le HR.out (by omega))
      obtain ⟨be, oe, rfl, hbe, cE_⟩ := event_cell VE.out hlt
      obtain ⟨bs, os, rfl, hbs, cs0_, cs1_, cs2_, cs3_⟩ := state_cells VS.out hlt
      have cE := (bAt HC.out (b := be) (o := oe + k) hbe).trans cE_
      have cs0 := (bAt HC.out (b := bs) (o := os + k * 4) hbs).trans cs0_
      have cs1 := (bAt HC.out (b := bs) (o := os + k * 4 + 1) hbs).trans cs1_
      have cs2 := (bAt HC.out (b := bs) (o := os + k * 4 + 2) hbs).trans cs2_
      have cs3 := (bAt HC.out (b := bs) (o := os + k * 4 + 3) hbs).trans cs3_
      clear cE_ cs0_ cs1_ cs2_ cs3_
      have hlo2 := dpLo_succ ds ss ↑ks co hy (rs0 ↑ks si) k
      have hhi2 := dpHi_succ ds ss ↑ks co hy (rs0 ↑ks si) k
      obtain ⟨yk, yd, yl, yh, hy2⟩ := rs_ex (rsAt ds ss ↑ks co hy (rs0 ↑ks si) (k + 1))
      rw [hx.out] at hok cE hlo2 hhi2
      rw [hy2] at hok2 cs0 cs1 cs2 cs3 hlo2 hhi2
      rw [hlo.out] at hlo2
      rw [hhi.out] at hhi2
      simp only at cs0 cs1 cs2 cs3 hlo2 hhi2
      have y0 := hok2.k0; have y1 := hok2.k1
      simp only at y0 y1
      obtain ⟨q, rfl⟩ := Int.eq_ofNat_of_zero_le y0
      have hq : q < ds.length := by omega
      have dQ := (bAt HW.out (b := bb) (o := oo + q) hbb).trans (QQ.out q hq)
      have X0 := hok.k0; have X1 := hok.k1
      simp only at X0 X1
      have HOK := Lib.hid hok
      obtain ⟨ev, hev⟩ : ∃ ev, rsEv ds ss ↑ks co hy ⟨xk, xd, xl, xh⟩ = ev := ⟨_, rfl⟩
      rw [hev] at cE hlo2 hhi2
      have HV := Lib.hid hev; have HL := Lib.hid hlo2; have HI := Lib.hid hhi2; have HY := Lib.hid hy2
      clear hok hok2 hev hlo2 hhi2 hy2 y0 y1
      have lbe : be < wr.heap.size := by omega
      have lbs : bs < wr.heap.size := by omega
      have lbq : bb < wr.heap.size := by omega
      have mbe1 : be < wr.heap.size + 1 := by omega
      have mbs1 : bs < wr.heap.size + 1 := by omega
      have mbb1 : bb < wr.heap.size + 1 := by omega
      have lr0 : w.heap.size < wr.heap.size := by omega
      have lq0 : w.heap.size < wr.heap.size + 1 := by omega
      have lr1 : w1.heap.size < wr.heap.size := by omega
      have lq1 : w1.heap.size < wr.heap.size + 1 := by omega
      have lr2 : w1.heap.size + 1 < wr.heap.size := by omega
      have lq2 : w1.heap.size + 1 < wr.heap.size + 1 := by omega
      have lr3 : w2.heap.size < wr.heap.size := by omega
      have lq3 : w2.heap.size < wr.heap.size + 1 := by omega
      have lr4 : w4.heap.size < wr.heap.size := by omega
      have lq4 : w4.heap.size < wr.heap.size + 1 := by omega
      go_upto_region 9 with fail
      refine genS (S := fun w' => Below (w2.heap.size) w5 w' ∧ w.heap.size < w'.heap.size ∧ w1.heap.size < w'.heap.size ∧ w1.heap.size + 1 < w'.heap.size ∧ w2.heap.size < w'.heap.size ∧ w4.heap.size < w'.heap.size ∧ wr.heap.size < w'.heap.size ∧ bb < w'.heap.size ∧ be < w'.heap.size ∧ w'.cell? ⟨w.heap.size, 0, none⟩ = some (.slice (some ⟨bb, oo, none⟩) ds.length c1) ∧ w'.cell? ⟨w.heap.size, 1, none⟩ = some (.slice A2 ss.length c2) ∧ w'.cell? ⟨w1.heap.size, 0, none⟩ = some (.slice (some ⟨bb, oo, none⟩) ds.length c1) ∧ w'.cell? ⟨w1.heap.size, 1, none⟩ = some (.slice A2 ss.length c2) ∧ w'.cell? ⟨w1.heap.size, 2, none⟩ = some (.int .i64 ↑ks) ∧ w'.cell? ⟨w1.heap.size, 3, none⟩ = some (.int .i64 co) ∧ w'.cell? ⟨w1.heap.size, 4, none⟩ = some (.int .i64 si) ∧ w'.cell? ⟨w1.heap.size, 5, none⟩ = some (.int .i64 hy) ∧ w'.cell? ⟨w1.heap.size + 1, 0, none⟩ = some (.slice (some ⟨be, oe, none⟩) m ce) ∧ w'.cell? ⟨w1.heap.size + 1, 1, none⟩ = some (.slice (some ⟨bs, os, none⟩) m cs) ∧ w'.cell? ⟨w1.heap.size + 1, 2, none⟩ = some (.slice Ad m cd) ∧ w'.cell? ⟨w2.heap.size, 0, none⟩ = some (.int .i64 lo) ∧ w'.cell? ⟨w2.heap.size, 1, none⟩ = some (.int .i64 hi) ∧ w'.cell? ⟨w4.heap.size, 0, none⟩ = some (.int .i64 xk) ∧ w'.cell? ⟨w4.heap.size, 1, none⟩ = some (.bool xd) ∧ w'.cell? ⟨w4.heap.size, 2, none⟩ = some (.int .i64 xl) ∧ w'.cell? ⟨w4.heap.size, 3, none⟩ = some (.int .i64 xh) ∧ w'.cell? ⟨wr.heap.size, 0, none⟩ = some (.int .i64 ↑q) ∧ w'.cell? ⟨wr.heap.size, 1, none⟩ = some (.bool yd) ∧ w'.cell? ⟨wr.heap.size, 2, none⟩ = some (.int .i64 yl) ∧ w'.cell? ⟨wr.heap.size, 3, none⟩ = some (.int .i64 yh) ∧ (∀ o, w'.frozen? ⟨w2.heap.size, o, none⟩ = false) ∧ (∀ o, w'.frozen? ⟨w4.heap.size, o, none⟩ = false) ∧ w'.cell? ⟨bb, oo + q, none⟩ = some (.int .i64 (spd ds ↑q)) ∧ w'.cell? ⟨be, oe + k, none⟩ = some (.int .i64 ev) ∧ wr.heap.size < w'.heap.size) ⟨by first | exact HBr.out | (have hb_ := HBr.out; go_grown), by first | omega | (simp; done) | (simp; omega), by first | omega | (simp; done) | (simp; omega), by first | omega | (simp; done) | (simp; omega), by first | omega | (simp; done) | (simp; omega), by first | omega | (simp; done) | (simp; omega), by first | omega | (simp; done) | (simp; omega), by first | omega | (simp; done) | (simp; omega), by first | omega | (simp; done) | (simp; omega), by simp [*, go_sem], by simp [*, go_sem], by simp [*, go_sem], by simp [*, go_sem], by simp [*, go_sem], by simp [*, go_sem], by simp [*, go_sem], by simp [*, go_sem], by simp [*, go_sem], by simp [*, go_sem], by simp [*, go_sem], by simp [*, go_sem], by simp [*, go_sem], by simp [*, go_sem], by simp [*, go_sem], by simp [*, go_sem], by simp [*, go_sem], by simp [*, go_sem], by simp [*, go_sem], by simp [*, go_sem], by simp [*, go_sem], fun o => by simp [*, go_sem], fun o => by simp [*, go_sem], by simp [*, go_sem], by simp [*, go_sem], by first | omega | (simp; done) | (simp; omega)⟩ ?_
      clear r0 r1 r2 r3 r4 r5 r6 r7 r8 r9 r10 o0 o1 b0 b1 b2 b3 fo fb cE cs0 cs1 cs2 cs3 dQ
      rintro w6 ⟨B6, lt6_0, lt6_1, lt6_2, lt6_3, lt6_4, lt6_5, lt6_6, lt6_7, c6_0, c6_1, c6_2, c6_3, c6_4, c6_5, c6_6, c6_7, c6_8, c6_9, c6_10, c6_11, c6_12, c6_13, c6_14, c6_15, c6_16, c6_17, c6_18, c6_19, c6_20, fz6_0, fz6_1, dq, de, gr6⟩
      have z6 : w5.heap.size ≤ w6.heap.size := B6.size
      have nw0 : (w.heap.size = w6.heap.size) = False := eq_false (by omega)
      have nv0 : (w6.heap.size = w.heap.size) = False := eq_false (by omega)
      have nw1 : (wr.heap.size = w6.heap.size) = False := eq_false (by omega)
      have nv1 : (w6.heap.size = wr.heap.size) = False := eq_false (by omega)
      have nw2 : (bb = w6.heap.size) = False := eq_false (by omega)
      have nv2 : (w6.heap.size = bb) = False := eq_false (by omega)
      go_region_held3 (fun w' => w'.cell? ⟨w.heap.size, 0, none⟩ = some (.slice (some ⟨bb, oo, none⟩) ds.length c1) ∧ w'.cell? ⟨w.heap.size, 1, none⟩ = some (.slice A2 ss.length c2) ∧ w'.cell? ⟨wr.heap.size, 0, none⟩ = some (.int .i64 ↑q) ∧ w'.cell? ⟨wr.heap.size, 1, none⟩ = some (.bool yd) ∧ w'.cell? ⟨wr.heap.size, 2, none⟩ = some (.int .i64 yl) ∧ w'.cell? ⟨wr.heap.size, 3, none⟩ = some (.int .i64 yh) ∧ w'.cell? ⟨bb, oo + q, none⟩ = some (.int .i64 (spd ds ↑q))) (first | (go_keep; done) | (simp [*, go_sem]; done))
        (fail)
      have la6_0 : w.heap.size < w6.heap.size := by omega
      have lb6_0 : w.heap.size < w6.heap.size + 1 := by omega
      have lc6_0 : w.heap.size < w6.heap.size + 1 + 1 := by omega
      have la6_1 : w1.heap.size < w6.heap.size := by omega
      have lb6_1 : w1.heap.size < w6.heap.size + 1 := by omega
      have lc6_1 : w1.heap.size < w6.heap.size + 1 + 1 := by omega
      have la6_2 : w1.heap.size + 1 < w6.heap.size := by omega
      have lb6_2 : w1.heap.size + 1 < w6.heap.size + 1 := by omega
      have lc6_2 : w1.heap.size + 1 < w6.heap.size + 1 + 1 := by omega
      have la6_3 : w2.heap.size < w6.heap.size := by omega
      have lb6_3 : w2.heap.size < w6.heap.size + 1 := by omega
      have lc6_3 : w2.heap.size < w6.heap.size + 1 + 1 := by omega
      have la6_4 : w4.heap.size < w6.heap.size := by omega
      have lb6_4 : w4.heap.size < w6.heap.size + 1 := by omega
      have lc6_4 : w4.heap.size < w6.heap.size + 1 + 1 := by omega
      have la6_5 : wr.heap.size < w6.heap.size := by omega
      have lb6_5 : wr.heap.size < w6.heap.size + 1 := by omega
      have lc6_5 : wr.heap.size < w6.heap.size + 1 + 1 := by omega
      have la6_6 : bb < w6.heap.size := by omega
      have lb6_6 : bb < w6.heap.size + 1 := by omega
      have lc6_6 : bb < w6.heap.size + 1 + 1 := by omega
      have la6_7 : be < w6.heap.size := by omega
      have lb6_7 : be < w6.heap.size + 1 := by omega
      have lc6_7 : be < w6.heap.size + 1 + 1 := by omega
      refine genS (S := fun w' => Below (w2.heap.size) w5 w' ∧ w6.heap.size < w'.heap.size ∧ w'.cell? ⟨w.heap.size, 0, none⟩ = some (.slice (some ⟨bb, oo, none⟩) ds.length c1) ∧ w'.cell? ⟨w.heap.size, 1, none⟩ = some (.slice A2 ss.length c2) ∧ w'.cell? ⟨w1.heap.size, 0, none⟩ = some (.slice (some ⟨bb, oo, none⟩) ds.length c1) ∧ w'.cell? ⟨w1.heap.size, 1, none⟩ = some (.slice A2 ss.length c2) ∧ w'.cell? ⟨w1.heap.size, 2, none⟩ = some (.int .i64 ↑ks) ∧ w'.cell? ⟨w1.heap.size, 3, none⟩ = some (.int .i64 co) ∧ w'.cell? ⟨w1.heap.size, 4, none⟩ = some (.int .i64 si) ∧ w'.cell? ⟨w1.heap.size, 5, none⟩ = some (.int .i64 hy) ∧ w'.cell? ⟨w1.heap.size + 1, 0, none⟩ = some (.slice (some ⟨be, oe, none⟩) m ce) ∧ w'.cell? ⟨w1.heap.size + 1, 1, none⟩ = some (.slice (some ⟨bs, os, none⟩) m cs) ∧ w'.cell? ⟨w1.heap.size + 1, 2, none⟩ = some (.slice Ad m cd) ∧ w'.cell? ⟨w2.heap.size, 0, none⟩ = some (.int .i64 lo) ∧ w'.cell? ⟨w2.heap.size, 1, none⟩ = some (.int .i64 hi) ∧ w'.cell? ⟨w4.heap.size, 0, none⟩ = some (.int .i64 xk) ∧ w'.cell? ⟨w4.heap.size, 1, none⟩ = some (.bool xd) ∧ w'.cell? ⟨w4.heap.size, 2, none⟩ = some (.int .i64 xl) ∧ w'.cell? ⟨w4.heap.size, 3, none⟩ = some (.int .i64 xh) ∧ w'.cell? ⟨wr.heap.size, 0, none⟩ = some (.int .i64 ↑q) ∧ w'.cell? ⟨wr.heap.size, 1, none⟩ = some (.bool yd) ∧ w'.cell? ⟨wr.heap.size, 2, none⟩ = some (.int .i64 yl) ∧ w'.cell? ⟨wr.heap.size, 3, none⟩ = some (.int .i64 yh) ∧ w'.cell? ⟨w6.heap.size, 0, none⟩ = some (.int .i64 (spd ds ↑q)) ∧ w'.cell? ⟨w6.heap.size, 1, none⟩ = some (.int .i64 (spd ds ↑q)) ∧ (∀ o, w'.frozen? ⟨w2.heap.size, o, none⟩ = false) ∧ (∀ o, w'.frozen? ⟨w4.heap.size, o, none⟩ = false) ∧ (∀ o, w'.frozen? ⟨w6.heap.size, o, none⟩ = false) ∧ w'.cell? ⟨be, oe + k, none⟩ = some (.int .i64 ev)) ⟨by go_grown, by first | omega | (simp; done) | (simp; omega), by simp [*, go_sem], by simp [*, go_sem], by simp [*, go_sem], by simp [*, go_sem], by simp [*, go_sem], by simp [*, go_sem], by simp [*, go_sem], by simp [*, go_sem], by simp [*, go_sem], by simp [*, go_sem], by simp [*, go_sem], by simp [*, go_sem], by simp [*, go_sem], by simp [*, go_sem], by simp [*, go_sem], by simp [*, go_sem], by simp [*, go_sem], by simp [*, go_sem], by simp [*, go_sem], by simp [*, go_sem], by simp [*, go_sem], by simp [*, go_sem], by simp [*, go_sem], fun o => by simp [*, go_sem], fun o => by simp [*, go_sem], fun o => by simp [*, go_sem], by simp [*, go_sem]⟩ ?_
      clear c6_0 c6_1 c6_2 c6_3 c6_4 c6_5 c6_6 c6_7 c6_8 c6_9 c6_10 c6_11 c6_12 c6_13 c6_14 c6_15 c6_16 c6_17 c6_18 c6_19 c6_20 fz6_0 fz6_1 dq de nw0 nw1 nw2 nv0 nv1 nv2
      rintro w7 ⟨B7, lt7_0, c7_0, c7_1, c7_2, c7_3, c7_4, c7_5, c7_6, c7_7, c7_8, c7_9, c7_10, c7_11, c7_12, c7_13, c7_14, c7_15, c7_16, c7_17, c7_18, c7_19, c7_20, c7_21, c7_22, fz7_0, fz7_1, fz7_2, de7⟩
      have z7 : w5.heap.size ≤ w7.heap.size := B7.size
      have HB7 := Lib.hid B7; clear B7 B6
      have hk1 : k + 1 ≤ m := by omega
      have hsz7 : w4.heap.size < w7.heap.size := by omega
      have hm1 : m - (k + 1) < m - k := by omega
      obtain ⟨npa1, npb1, npa2, npb2, npa3, npb3, npa4, npb4, npa5, npb5, npa6, npb6, npa7, npb7, npa8, npb8, npa9, npb9, npa10, npb10, npa11, npb11, npa12, npb12, npa13, npb13, npa14, npb14, npa15, npb15, npa16, npb16, npa17, npb17, npa18, npb18⟩ : (w2.heap.size = w.heap.size) = False ∧ (w.heap.size = w2.heap.size) = False ∧ (w2.heap.size = w1.heap.size) = False ∧ (w1.heap.size = w2.heap.size) = False ∧ (w2.heap.size = w1.heap.size + 1) = False ∧ (w1.heap.size + 1 = w2.heap.size) = False ∧ (w2.heap.size = w4.heap.size) = False ∧ (w4.heap.size = w2.heap.size) = False ∧ (w2.heap.size = wr.heap.size) = False ∧ (wr.heap.size = w2.heap.size) = False ∧ (w2.heap.size = w6.heap.size) = False ∧ (w6.heap.size = w2.heap.size) = False ∧ (w2.heap.size = be) = False ∧ (be = w2.heap.size) = False ∧ (w4.heap.size = w.heap.size) = False ∧ (w.heap.size = w4.heap.size) = False ∧ (w4.heap.size = w1.heap.size) = False ∧ (w1.heap.size = w4.heap.size) = False ∧ (w4.heap.size = w1.heap.size + 1) = False ∧ (w1.heap.size + 1 = w4.heap.size) = False ∧ (w4.heap.size = wr.heap.size) = False ∧ (wr.heap.size = w4.heap.size) = False ∧ (w4.heap.size = w6.heap.size) = False ∧ (w6.heap.size = w4.heap.size) = False ∧ (w4.heap.size = be) = False ∧ (be = w4.heap.size) = False ∧ (w6.heap.size = w.heap.size) = False ∧ (w.heap.size = w6.heap.size) = False ∧ (w6.heap.size = w1.heap.size) = False ∧ (w1.heap.size = w6.heap.size) = False ∧ (w6.heap.size = w1.heap.size + 1) = False ∧ (w1.heap.size + 1 = w6.heap.size) = False ∧ (w6.heap.size = wr.heap.size) = False ∧ (wr.heap.size = w6.heap.size) = False ∧ (w6.heap.size = be) = False ∧ (be = w6.heap.size) = False := by
        refine ⟨?_, ?_, ?_, ?_, ?_, ?_, ?_, ?_, ?_, ?_, ?_, ?_, ?_, ?_, ?_, ?_, ?_, ?_, ?_, ?_, ?_, ?_, ?_, ?_, ?_, ?_, ?_, ?_, ?_, ?_, ?_, ?_, ?_, ?_, ?_, ?_⟩ <;> exact eq_false (by omega)
      have lw7 : w.heap.size < w7.heap.size := by omega
      clear la6_0 lb6_0 lc6_0 la6_1 lb6_1 lc6_1 la6_2 lb6_2 lc6_2 la6_3 lb6_3 lc6_3 la6_4 lb6_4 lc6_4 la6_5 lb6_5 lc6_5 la6_6 lb6_6 lc6_6 la6_7 lb6_7 lc6_7 lr0 lq0 lr1 lq1 lr2 lq2 lr3 lq3 lr4 lq4 lbe lbs lbq mbe1 mbs1 mbb1 la4_0 lb4_0 lc4_0 la4_1 lb4_1 lc4_1 la4_2 lb4_2 lc4_2 la4_3 lb4_3 lc4_3
      go_upto_region 10 with fail
      obtain ⟨m1, hm1⟩ : ∃ x, max lo (spd ds ↑q) = x := ⟨_, rfl⟩
      obtain ⟨m2, hm2⟩ : ∃ x, max hi (spd ds ↑q) = x := ⟨_, rfl⟩
      have gm1 : (if lo < (spd ds ↑q) then (spd ds ↑q) else lo) = m1 := by rw [← hm1]; split <;> omega
      have gm2 : (if hi < (spd ds ↑q) then (spd ds ↑q) else hi) = m2 := by rw [← hm2]; split <;> omega
      have M_m1 := Lib.hid hm1; have M_m2 := Lib.hid hm2; clear hm1 hm2
      go_upto_region 11 with fail
      clear gm1 gm2
      refine genS (S := fun w' => Below (w2.heap.size) w5 w' ∧ w4.heap.size < w'.heap.size ∧ wr.heap.size < w'.heap.size ∧ w6.heap.size < w'.heap.size ∧ w'.cell? ⟨w.heap.size, 0, none⟩ = some (.slice (some ⟨bb, oo, none⟩) ds.length c1) ∧ w'.cell? ⟨w.heap.size, 1, none⟩ = some (.slice A2 ss.length c2) ∧ w'.cell? ⟨w1.heap.size, 0, none⟩ = some (.slice (some ⟨bb, oo, none⟩) ds.length c1) ∧ w'.cell? ⟨w1.heap.size, 1, none⟩ = some (.slice A2 ss.length c2) ∧ w'.cell? ⟨w1.heap.size, 2, none⟩ = some (.int .i64 ↑ks) ∧ w'.cell? ⟨w1.heap.size, 3, none⟩ = some (.int .i64 co) ∧ w'.cell? ⟨w1.heap.size, 4, none⟩ = some (.int .i64 si) ∧ w'.cell? ⟨w1.heap.size, 5, none⟩ = some (.int .i64 hy) ∧ w'.cell? ⟨w1.heap.size + 1, 0, none⟩ = some (.slice (some ⟨be, oe, none⟩) m ce) ∧ w'.cell? ⟨w1.heap.size + 1, 1, none⟩ = some (.slice (some ⟨bs, os, none⟩) m cs) ∧ w'.cell? ⟨w1.heap.size + 1, 2, none⟩ = some (.slice Ad m cd) ∧ w'.cell? ⟨w2.heap.size, 0, none⟩ = some (.int .i64 m1) ∧ w'.cell? ⟨w2.heap.size, 1, none⟩ = some (.int .i64 m2) ∧ w'.cell? ⟨w4.heap.size, 0, none⟩ = some (.int .i64 xk) ∧ w'.cell? ⟨w4.heap.size, 1, none⟩ = some (.bool xd) ∧ w'.cell? ⟨w4.heap.size, 2, none⟩ = some (.int .i64 xl) ∧ w'.cell? ⟨w4.heap.size, 3, none⟩ = some (.int .i64 xh) ∧ w'.cell? ⟨wr.heap.size, 0, none⟩ = some (.int .i64 ↑q) ∧ w'.cell? ⟨wr.heap.size, 1, none⟩ = some (.bool yd) ∧ w'.cell? ⟨wr.heap.size, 2, none⟩ = some (.int .i64 yl) ∧ w'.cell? ⟨wr.heap.size, 3, none⟩ = some (.int .i64 yh) ∧ w'.cell? ⟨w6.heap.size, 0, none⟩ = some (.int .i64 (spd ds ↑q)) ∧ w'.cell? ⟨w6.heap.size, 1, none⟩ = some (.int .i64 (spd ds ↑q)) ∧ (∀ o, w'.frozen? ⟨w2.heap.size, o, none⟩ = false) ∧ (∀ o, w'.frozen? ⟨w4.heap.size, o, none⟩ = false) ∧ (∀ o, w'.frozen? ⟨w6.heap.size, o, none⟩ = false) ∧ w'.cell? ⟨be, oe + k, none⟩ = some (.int .i64 ev)) ⟨by have hb_ := HB7.out; first | exact hb_ | (go_grown; done) | exact bdrewN (by go_grown) _, by first | omega | (simp; done) | (simp; omega), by first | omega | (simp; done) | (simp; omega), by first | omega | (simp; done) | (simp; omega), by simp [*, go_sem], by simp [*, go_sem], by simp [*, go_sem], by simp [*, go_sem], by simp [*, go_sem], by simp [*, go_sem], by simp [*, go_sem], by simp [*, go_sem], by simp [*, go_sem], by simp [*, go_sem], by simp [*, go_sem], by simp [*, go_sem], by simp [*, go_sem], by simp [*, go_sem], by simp [*, go_sem], by simp [*, go_sem], by simp [*, go_sem], by simp [*, go_sem], by simp [*, go_sem], by simp [*, go_sem], by simp [*, go_sem], by simp [*, go_sem], by simp [*, go_sem], fun o => by simp [*, go_sem], fun o => by simp [*, go_sem], fun o => by simp [*, go_sem], by simp [*, go_sem]⟩ ?_
      clear c7_0 c7_1 c7_2 c7_3 c7_4 c7_5 c7_6 c7_7 c7_8 c7_9 c7_10 c7_11 c7_12 c7_13 c7_14 c7_15 c7_16 c7_17 c7_18 c7_19 c7_20 c7_21 c7_22 fz7_0 fz7_1 fz7_2 lt7_0 de7
      rintro w8 ⟨B8, lt8_0, lt8_1, lt8_2, c8_0, c8_1, c8_2, c8_3, c8_4, c8_5, c8_6, c8_7, c8_8, c8_9, c8_10, c8_11, c8_12, c8_13, c8_14, c8_15, c8_16, c8_17, c8_18, c8_19, c8_20, c8_21, c8_22, fz8_0, fz8_1, fz8_2, de8⟩
      have z8 : w5.heap.size ≤ w8.heap.size := B8.size
      have HB8 := Lib.hid B8; clear B8
      have HW8 := Lib.hid (HB.out.trans ((HB5.out.trans HB8.out).mono (show w.heap.size ≤ w2.heap.size by omega)))
      have HP8 := Lib.hid (H.out.below HW8.out (Nat.le_refl _))
      by_cases hev2 : ev = 2
      · have tf := turn_facts R.out HOK.out (HV.out.trans hev2)
        dsimp only at tf
        obtain ⟨tn0, tn1, tf0, tf1, tcn, tcf, tin⟩ := tf
        have TC := Lib.hid (And.intro tcn (And.intro tcf tin)); clear tcn tcf tin
        have hl2 := HL.out; have hi2 := HI.out
        rw [if_pos hev2] at hl2 hi2
        have hl3 := hl2; have hi3 := hi2
        unfold tdl at hl3; unfold tdh at hi3
        dsimp only at hl3 hi3
        obtain ⟨tl, htl⟩ : ∃ x, tdLo ds ss ↑ks co hy (nearK (layK xk xd) xd) (farK (layK xk xd) xd) = x := ⟨_, rfl⟩
        obtain ⟨th, hth⟩ : ∃ x, tdHi ds ss ↑ks co hy (nearK (layK xk xd) xd) (farK (layK xk xd) xd) = x := ⟨_, rfl⟩
        rw [htl, M_m1.out] at hl3; rw [hth, M_m2.out] at hi3
        have HL3 := Lib.hid hl3; have HI3 := Lib.hid hi3; clear hl2 hi2 hl3 hi3
        have TD := Lib.hid (show ∀ w, ProfAt w (some ⟨bb, oo, none⟩) c1 A2 c2 ds ss → Calls Try.prog 58 #[arcV (some ⟨bb, oo, none⟩) ds.length c1 A2 ss.length c2 ↑ks co si hy (nearK (layK xk xd) xd) (farK (layK xk xd) xd)] w fun e w' => e = .returned (ivV tl th) ∧ Below w.heap.size w w' from fun w h => by have q := turnDepth_any (some ⟨bb, oo, none⟩) A2 c1 c2 ds ss ↑ks co si hy _ _ w h R.out tn0 tn1 tf0 tf1 TC.out.1 TC.out.2.1; rw [htl, hth] at q; exact q)
        clear htl hth tn0 tn1 tf0 tf1
        go_upto_region 13 with (go_at_call 57; refine (next_in (some ⟨bb, oo, none⟩) A2 c1 c2 ds ss ↑ks co si hy xk xl xh _ (by omega) l1 X0 (by omega) xd TC.out.2.2).mono ?_; rintro e w9 ⟨rfl, hb9⟩; obtain ⟨B9, hz9, q9, s9, t9, x9, y9, z9⟩ := bkeep (w := w8) [w.heap.size, w1.heap.size, w1.heap.size + 1, w2.heap.size, w4.heap.size, wr.heap.size, w6.heap.size] (by first | (simp; done) | (simp; omega)) (by first | (go_grown; done) | exact bdrewN (by go_grown) _) hb9; (try simp at hz9); clear hb9)
        have gAB : w6.heap.size < w9.heap.size := by omega
        refine genS (S := fun w' => Below (w2.heap.size) w5 w' ∧ w4.heap.size < w'.heap.size ∧ wr.heap.size < w'.heap.size ∧ w6.heap.size < w'.heap.size ∧ w9.heap.size < w'.heap.size ∧ w'.cell? ⟨w.heap.size, 0, none⟩ = some (.slice (some ⟨bb, oo, none⟩) ds.length c1) ∧ w'.cell? ⟨w.heap.size, 1, none⟩ = some (.slice A2 ss.length c2) ∧ w'.cell? ⟨w1.heap.size, 0, none⟩ = some (.slice (some ⟨bb, oo, none⟩) ds.length c1) ∧ w'.cell? ⟨w1.heap.size, 1, none⟩ = some (.slice A2 ss.length c2) ∧ w'.cell? ⟨w1.heap.size, 2, none⟩ = some (.int .i64 ↑ks) ∧ w'.cell? ⟨w1.heap.size, 3, none⟩ = some (.int .i64 co) ∧ w'.cell? ⟨w1.heap.size, 4, none⟩ = some (.int .i64 si) ∧ w'.cell? ⟨w1.heap.size, 5, none⟩ = some (.int .i64 hy) ∧ w'.cell? ⟨w1.heap.size + 1, 0, none⟩ = some (.slice (some ⟨be, oe, none⟩) m ce) ∧ w'.cell? ⟨w1.heap.size + 1, 1, none⟩ = some (.slice (some ⟨bs, os, none⟩) m cs) ∧ w'.cell? ⟨w1.heap.size + 1, 2, none⟩ = some (.slice Ad m cd) ∧ w'.cell? ⟨w2.heap.size, 0, none⟩ = some (.int .i64 m1) ∧ w'.cell? ⟨w2.heap.size, 1, none⟩ = some (.int .i64 m2) ∧ w'.cell? ⟨w4.heap.size, 0, none⟩ = some (.int .i64 xk) ∧ w'.cell? ⟨w4.heap.size, 1, none⟩ = some (.bool xd) ∧ w'.cell? ⟨w4.heap.size, 2, none⟩ = some (.int .i64 xl) ∧ w'.cell? ⟨w4.heap.size, 3, none⟩ = some (.int .i64 xh) ∧ w'.cell? ⟨wr.heap.size, 0, none⟩ = some (.int .i64 ↑q) ∧ w'.cell? ⟨wr.heap.size, 1, none⟩ = some (.bool yd) ∧ w'.cell? ⟨wr.heap.size, 2, none⟩ = some (.int .i64 yl) ∧ w'.cell? ⟨wr.heap.size, 3, none⟩ = some (.int .i64 yh) ∧ w'.cell? ⟨w6.heap.size, 0, none⟩ = some (.int .i64 (spd ds ↑q)) ∧ w'.cell? ⟨w6.heap.size, 1, none⟩ = some (.int .i64 (spd ds ↑q)) ∧ w'.cell? ⟨w9.heap.size, 0, none⟩ = some (.slice (some ⟨bb, oo, none⟩) ds.length c1) ∧ w'.cell? ⟨w9.heap.size, 1, none⟩ = some (.slice A2 ss.length c2) ∧ w'.cell? ⟨w9.heap.size, 2, none⟩ = some (.int .i64 ↑ks) ∧ w'.cell? ⟨w9.heap.size, 3, none⟩ = some (.int .i64 co) ∧ w'.cell? ⟨w9.heap.size, 4, none⟩ = some (.int .i64 si) ∧ w'.cell? ⟨w9.heap.size, 5, none⟩ = some (.int .i64 hy) ∧ w'.cell? ⟨w9.heap.size, 6, none⟩ = some (.int .i64 (nearK (layK xk xd) xd)) ∧ w'.cell? ⟨w9.heap.size, 7, none⟩ = some (.int .i64 (farK (layK xk xd) xd)) ∧ (∀ o, w'.frozen? ⟨w2.heap.size, o, none⟩ = false) ∧ (∀ o, w'.frozen? ⟨w4.heap.size, o, none⟩ = false) ∧ (∀ o, w'.frozen? ⟨w6.heap.size, o, none⟩ = false)) ⟨by have hb_ := HB8.out.trans (B9.mono (show w2.heap.size ≤ w8.heap.size by omega)); first | exact hb_ | (go_grown; done) | exact bdrewN (by go_grown) _, by first | omega | (simp; done) | (simp; omega), by first | omega | (simp; done) | (simp; omega), by first | omega | (simp; done) | (simp; omega), by first | omega | (simp; done) | (simp; omega), by simp [*, go_sem], by simp [*, go_sem], by simp [*, go_sem], by simp [*, go_sem], by simp [*, go_sem], by simp [*, go_sem], by simp [*, go_sem], by simp [*, go_sem], by simp [*, go_sem], by simp [*, go_sem], by simp [*, go_sem], by simp [*, go_sem], by simp [*, go_sem], by simp [*, go_sem], by simp [*, go_sem], by simp [*, go_sem], by simp [*, go_sem], by simp [*, go_sem], by simp [*, go_sem], by simp [*, go_sem], by simp [*, go_sem], by simp [*, go_sem], by simp [*, go_sem], by simp [*, go_sem], by simp [*, go_sem], by simp [*, go_sem], by simp [*, go_sem], by simp [*, go_sem], by simp [*, go_sem], by simp [*, go_sem], by simp [*, go_sem], fun o => by simp [*, go_sem], fun o => by simp [*, go_sem], fun o => by simp [*, go_sem]⟩ ?_
        clear q9 s9 t9 x9 y9 z9 hz9 B9 c8_0 c8_1 c8_2 c8_3 c8_4 c8_5 c8_6 c8_7 c8_8 c8_9 c8_10 c8_11 c8_12 c8_13 c8_14 c8_15 c8_16 c8_17 c8_18 c8_19 c8_20 c8_21 c8_22 fz8_0 fz8_1 fz8_2 lt8_0 lt8_1 lt8_2 de8
        rintro w10 ⟨B10, lt10_0, lt10_1, lt10_2, lt10_3, c10_0, c10_1, c10_2, c10_3, c10_4, c10_5, c10_6, c10_7, c10_8, c10_9, c10_10, c10_11, c10_12, c10_13, c10_14, c10_15, c10_16, c10_17, c10_18, c10_19, c10_20, c10_21, c10_22, c10_23, c10_24, c10_25, c10_26, c10_27, c10_28, c10_29, c10_30, fz10_0, fz10_1, fz10_2⟩
        have z10 : w5.heap.size ≤ w10.heap.size := B10.size
        have HB10 := Lib.hid B10; clear B10
        have HW10 := Lib.hid (HB.out.trans ((HB5.out.trans HB10.out).mono (show w.heap.size ≤ w2.heap.size by omega)))
        have HP10 := Lib.hid (H.out.below HW10.out (Nat.le_refl _))
        obtain ⟨nka1, nkb1, nka2, nkb2, nka3, nkb3, nka4, nkb4, nka5, nkb5, nka6, nkb6, nka7, nkb7⟩ : (w.heap.size = w9.heap.size) = False ∧ (w9.heap.size = w.heap.size) = False ∧ (w1.heap.size = w9.heap.size) = False ∧ (w9.heap.size = w1.heap.size) = False ∧ (w1.heap.size + 1 = w9.heap.size) = False ∧ (w9.heap.size = w1.heap.size + 1) = False ∧ (w2.heap.size = w9.heap.size) = False ∧ (w9.heap.size = w2.heap.size) = False ∧ (w4.heap.size = w9.heap.size) = False ∧ (w9.heap.size = w4.heap.size) = False ∧ (wr.heap.size = w9.heap.size) = False ∧ (w9.heap.size = wr.heap.size) = False ∧ (w6.heap.size = w9.heap.size) = False ∧ (w9.heap.size = w6.heap.size) = False := by
          refine ⟨?_, ?_, ?_, ?_, ?_, ?_, ?_, ?_, ?_, ?_, ?_, ?_, ?_, ?_⟩ <;> exact eq_false (by omega)
        go_upto_region 14 with (go_at_call 58; refine (TD.out _ (HP10.out.below (B := w10.heap.size) (by first | exact Below.refl _ _ | (go_grown; done) | exact bdrewN (by go_grown) _) (Nat.le_refl _))).mono ?_; rintro e w11 ⟨rfl, hb11⟩; obtain ⟨B11, hz11, q11, s11, t11, x11, y11, z11⟩ := bkeep (w := w10) [w.heap.size, w1.heap.size, w1.heap.size + 1, w2.heap.size, w4.heap.size, wr.heap.size, w6.heap.size, w9.heap.size] (by first | (simp; done) | (simp; omega)) (by first | (go_grown; done) | exact bdrewN (by go_grown) _) hb11; (try simp at hz11); clear hb11)
        refine genS (S := fun w' => Below (w2.heap.size) w5 w' ∧ w4.heap.size < w'.heap.size ∧ wr.heap.size < w'.heap.size ∧ w6.heap.size < w'.heap.size ∧ w9.heap.size < w'.heap.size ∧ w'.cell? ⟨w.heap.size, 0, none⟩ = some (.slice (some ⟨bb, oo, none⟩) ds.length c1) ∧ w'.cell? ⟨w.heap.size, 1, none⟩ = some (.slice A2 ss.length c2) ∧ w'.cell? ⟨w1.heap.size, 0, none⟩ = some (.slice (some ⟨bb, oo, none⟩) ds.length c1) ∧ w'.cell? ⟨w1.heap.size, 1, none⟩ = some (.slice A2 ss.length c2) ∧ w'.cell? ⟨w1.heap.size, 2, none⟩ = some (.int .i64 ↑ks) ∧ w'.cell? ⟨w1.heap.size, 3, none⟩ = some (.int .i64 co) ∧ w'.cell? ⟨w1.heap.size, 4, none⟩ = some (.int .i64 si) ∧ w'.cell? ⟨w1.heap.size, 5, none⟩ = some (.int .i64 hy) ∧ w'.cell? ⟨w1.heap.size + 1, 0, none⟩ = some (.slice (some ⟨be, oe, none⟩) m ce) ∧ w'.cell? ⟨w1.heap.size + 1, 1, none⟩ = some (.slice (some ⟨bs, os, none⟩) m cs) ∧ w'.cell? ⟨w1.heap.size + 1, 2, none⟩ = some (.slice Ad m cd) ∧ w'.cell? ⟨w2.heap.size, 0, none⟩ = some (.int .i64 m1) ∧ w'.cell? ⟨w2.heap.size, 1, none⟩ = some (.int .i64 m2) ∧ w'.cell? ⟨w4.heap.size, 0, none⟩ = some (.int .i64 xk) ∧ w'.cell? ⟨w4.heap.size, 1, none⟩ = some (.bool xd) ∧ w'.cell? ⟨w4.heap.size, 2, none⟩ = some (.int .i64 xl) ∧ w'.cell? ⟨w4.heap.size, 3, none⟩ = some (.int .i64 xh) ∧ w'.cell? ⟨wr.heap.size, 0, none⟩ = some (.int .i64 ↑q) ∧ w'.cell? ⟨wr.heap.size, 1, none⟩ = some (.bool yd) ∧ w'.cell? ⟨wr.heap.size, 2, none⟩ = some (.int .i64 yl) ∧ w'.cell? ⟨wr.heap.size, 3, none⟩ = some (.int .i64 yh) ∧ w'.cell? ⟨w6.heap.size, 0, none⟩ = some (.int .i64 tl) ∧ w'.cell? ⟨w6.heap.size, 1, none⟩ = some (.int .i64 th) ∧ (∀ o, w'.frozen? ⟨w2.heap.size, o, none⟩ = false) ∧ (∀ o, w'.frozen? ⟨w4.heap.size, o, none⟩ = false) ∧ (∀ o, w'.frozen? ⟨w6.heap.size, o, none⟩ = false)) ⟨by have hb_ := HB10.out.trans (B11.mono (show w2.heap.size ≤ w10.heap.size by omega)); first | exact hb_ | (go_grown; done) | exact bdrewN (by go_grown) _, by first | omega | (simp; done) | (simp; omega), by first | omega | (simp; done) | (simp; omega), by first | omega | (simp; done) | (simp; omega), by first | omega | (simp; done) | (simp; omega), by simp [*, go_sem], by simp [*, go_sem], by simp [*, go_sem], by simp [*, go_sem], by simp [*, go_sem], by simp [*, go_sem], by simp [*, go_sem], by simp [*, go_sem], by simp [*, go_sem], by simp [*, go_sem], by simp [*, go_sem], by simp [*, go_sem], by simp [*, go_sem], by simp [*, go_sem], by simp [*, go_sem], by simp [*, go_sem], by simp [*, go_sem], by simp [*, go_sem], by simp [*, go_sem], by simp [*, go_sem], by simp [*, go_sem], by simp [*, go_sem], by simp [*, go_sem], fun o => by simp [*, go_sem], fun o => by simp [*, go_sem], fun o => by simp [*, go_sem]⟩ ?_
        clear q11 s11 t11 x11 y11 z11 hz11 B11 c10_0 c10_1 c10_2 c10_3 c10_4 c10_5 c10_6 c10_7 c10_8 c10_9 c10_10 c10_11 c10_12 c10_13 c10_14 c10_15 c10_16 c10_17 c10_18 c10_19 c10_20 c10_21 c10_22 c10_23 c10_24 c10_25 c10_26 c10_27 c10_28 c10_29 c10_30 fz10_0 fz10_1 fz10_2 lt10_0 lt10_1 lt10_2 lt10_3
        rintro w12 ⟨B12, lt12_0, lt12_1, lt12_2, lt12_3, c12_0, c12_1, c12_2, c12_3, c12_4, c12_5, c12_6, c12_7, c12_8, c12_9, c12_10, c12_11, c12_12, c12_13, c12_14, c12_15, c12_16, c12_17, c12_18, c12_19, c12_20, c12_21, c12_22, fz12_0, fz12_1, fz12_2⟩
        have z12 : w5.heap.size ≤ w12.heap.size := B12.size
        have HB12 := Lib.hid B12; clear B12
        obtain ⟨n1, hn1⟩ : ∃ x, max m1 tl = x := ⟨_, rfl⟩
        obtain ⟨n2, hn2⟩ : ∃ x, max m2 th = x := ⟨_, rfl⟩
        have gn1 : (if m1 < tl then tl else m1) = n1 := by rw [← hn1]; split <;> omega
        have gn2 : (if m2 < th then th else m2) = n2 := by rw [← hn2]; split <;> omega
        have M_n1 := Lib.hid hn1; have M_n2 := Lib.hid hn2; clear hn1 hn2
        go_upto_region 15 with fail
        clear gn1 gn2
        refine genS (S := fun w' => Below (w2.heap.size) w5 w' ∧ w4.heap.size < w'.heap.size ∧ wr.heap.size < w'.heap.size ∧ w6.heap.size < w'.heap.size ∧ w'.cell? ⟨w.heap.size, 0, none⟩ = some (.slice (some ⟨bb, oo, none⟩) ds.length c1) ∧ w'.cell? ⟨w.heap.size, 1, none⟩ = some (.slice A2 ss.length c2) ∧ w'.cell? ⟨w1.heap.size, 0, none⟩ = some (.slice (some ⟨bb, oo, none⟩) ds.length c1) ∧ w'.cell? ⟨w1.heap.size, 1, none⟩ = some (.slice A2 ss.length c2) ∧ w'.cell? ⟨w1.heap.size, 2, none⟩ = some (.int .i64 ↑ks) ∧ w'.cell? ⟨w1.heap.size, 3, none⟩ = some (.int .i64 co) ∧ w'.cell? ⟨w1.heap.size, 4, none⟩ = some (.int .i64 si) ∧ w'.cell? ⟨w1.heap.size, 5, none⟩ = some (.int .i64 hy) ∧ w'.cell? ⟨w1.heap.size + 1, 0, none⟩ = some (.slice (some ⟨be, oe, none⟩) m ce) ∧ w'.cell? ⟨w1.heap.size + 1, 1, none⟩ = some (.slice (some ⟨bs, os, none⟩) m cs) ∧ w'.cell? ⟨w1.heap.size + 1, 2, none⟩ = some (.slice Ad m cd) ∧ w'.cell? ⟨w2.heap.size, 0, none⟩ = some (.int .i64 n1) ∧ w'.cell? ⟨w2.heap.size, 1, none⟩ = some (.int .i64 n2) ∧ w'.cell? ⟨w4.heap.size, 0, none⟩ = some (.int .i64 xk) ∧ w'.cell? ⟨w4.heap.size, 1, none⟩ = some (.bool xd) ∧ w'.cell? ⟨w4.heap.size, 2, none⟩ = some (.int .i64 xl) ∧ w'.cell? ⟨w4.heap.size, 3, none⟩ = some (.int .i64 xh) ∧ w'.cell? ⟨wr.heap.size, 0, none⟩ = some (.int .i64 ↑q) ∧ w'.cell? ⟨wr.heap.size, 1, none⟩ = some (.bool yd) ∧ w'.cell? ⟨wr.heap.size, 2, none⟩ = some (.int .i64 yl) ∧ w'.cell? ⟨wr.heap.size, 3, none⟩ = some (.int .i64 yh) ∧ w'.cell? ⟨w6.heap.size, 0, none⟩ = some (.int .i64 tl) ∧ w'.cell? ⟨w6.heap.size, 1, none⟩ = some (.int .i64 th) ∧ (∀ o, w'.frozen? ⟨w2.heap.size, o, none⟩ = false) ∧ (∀ o, w'.frozen? ⟨w4.heap.size, o, none⟩ = false) ∧ (∀ o, w'.frozen? ⟨w6.heap.size, o, none⟩ = false)) ⟨by have hb_ := HB12.out; first | exact hb_ | (go_grown; done) | exact bdrewN (by go_grown) _, by first | omega | (simp; done) | (simp; omega), by first | omega | (simp; done) | (simp; omega), by first | omega | (simp; done) | (simp; omega), by simp [*, go_sem], by simp [*, go_sem], by simp [*, go_sem], by simp [*, go_sem], by simp [*, go_sem], by simp [*, go_sem], by simp [*, go_sem], by simp [*, go_sem], by simp [*, go_sem], by simp [*, go_sem], by simp [*, go_sem], by simp [*, go_sem], by simp [*, go_sem], by simp [*, go_sem], by simp [*, go_sem], by simp [*, go_sem], by simp [*, go_sem], by simp [*, go_sem], by simp [*, go_sem], by simp [*, go_sem], by simp [*, go_sem], by simp [*, go_sem], by simp [*, go_sem], fun o => by simp [*, go_sem], fun o => by simp [*, go_sem], fun o => by simp [*, go_sem]⟩ ?_
        clear c12_0 c12_1 c12_2 c12_3 c12_4 c12_5 c12_6 c12_7 c12_8 c12_9 c12_10 c12_11 c12_12 c12_13 c12_14 c12_15 c12_16 c12_17 c12_18 c12_19 c12_20 c12_21 c12_22 fz12_0 fz12_1 fz12_2 lt12_0 lt12_1 lt12_2 lt12_3
        rintro w13 ⟨B13, lt13_0, lt13_1, lt13_2, c13_0, c13_1, c13_2, c13_3, c13_4, c13_5, c13_6, c13_7, c13_8, c13_9, c13_10, c13_11, c13_12, c13_13, c13_14, c13_15, c13_16, c13_17, c13_18, c13_19, c13_20, c13_21, c13_22, fz13_0, fz13_1, fz13_2⟩
        have z13 : w5.heap.size ≤ w13.heap.size := B13.size
        have HB13 := Lib.hid B13; clear B13
        have EL := Lib.hid (HL3.out.trans M_n1.out); have EI := Lib.hid (HI3.out.trans M_n2.out)
        go_wp2
        go_roundw
        case rel =>
          refine ⟨k + 1, ↑q, yd, yl, yh, n1, n2, hk1, ?_, Lib.hid HY.out, Lib.hid EL.out, Lib.hid EI.out, ?_, ?_, ?_, ?_, ?_, ?_, ?_, ?_, ?_, ?_⟩
          · go_num
          · have hb_ := HB13.out; first | exact hb_ | (go_grown; done) | exact bdrewN (by go_grown) _
          · first | omega | (simp; done) | (simp; omega)
          · simp [*, go_sem]
          · simp [*, go_sem]
          · simp [*, go_sem]
          · simp [*, go_sem]
          · simp [*, go_sem]
          · simp [*, go_sem]
          · intro o; simp [*, go_sem]
          · intro o; simp [*, go_sem]
        case measure => simp [intOf]; omega
      · have he2 : (ev == 2) = false := by simpa using hev2
        have EL := Lib.hid ((HL.out.trans (if_neg hev2)).trans M_m1.out); have EI := Lib.hid ((HI.out.trans (if_neg hev2)).trans M_m2.out)
        go_wp2
        go_roundw
        case rel =>
          refine ⟨k + 1, ↑q, yd, yl, yh, m1, m2, hk1, ?_, Lib.hid HY.out, Lib.hid EL.out, Lib.hid EI.out, ?_, ?_, ?_, ?_, ?_, ?_, ?_, ?_, ?_, ?_⟩
          · go_num
          · have hb_ := HB8.out; first | exact hb_ | (go_grown; done) | exact bdrewN (by go_grown) _
          · first | omega | (simp; done) | (simp; omega)
          · simp [*, go_sem]
          · simp [*, go_sem]
          · simp [*, go_sem]
          · simp [*, go_sem]
          · simp [*, go_sem]
          · simp [*, go_sem]
          · intro o; simp [*, go_sem]
          · intro o; simp [*, go_sem]
        case measure => simp [intOf]; omega
    · obtain rfl : k = m := by omega
      have e0 := (bAt HC.out (b := w.heap.size + 1 + 1) (o := 0) la2_1).trans c2_2
      have e1 := (bAt HC.out (b := w.heap.size + 1 + 1) (o := 1) la2_1).trans c2_3
      have ef := fun o => (bAtF HC.out (b := w.heap.size + 1 + 1) (o := o) la2_1).trans (fz2_0 o)
      have eN : (w2.heap.size = w.heap.size + 1 + 1) = False := eq_false (by omega)
      go_wp2
      refine bodyPost_ret (by simp [results, Try.results20, go_sem, *] <;> rfl) rfl ?_
      refine ⟨by rw [hlo.out, hhi.out], ?_⟩
      have hb_ := HW.out
      go_grown
theorem implDeepestOf_any (A1 A2 : Option Addr) (c1 c2 : Nat) (ds ss : List Int) (src co si hy n : Int) (w : World) (h : ProfAt w A1 c1 A2 c2 ds ss) :
    Calls Try.prog 20 #[profV A1 ds.length c1 A2 ss.length c2, .int .i64 src, dirV co si hy, .int .i64 n] w fun e w' =>
      e = .returned (.tuple #[ivV (deLo ds ss src co si hy n) (deHi ds ss src co si hy n), .int .i64 (trCo ds ss src co si hy n)]) ∧ Below w.heap.size w w' := by
  by_cases hc : trCo ds ss src co si hy n = 0
  · obtain ⟨r, m, rfl, hm, hr⟩ := trCo_zero hc
    obtain ⟨eL, eX⟩ := de_ok hc
    rw [eL, eX, hc]
    exact implDeepestOf_ok A1 A2 c1 c2 ds ss src co si hy m w h r hm hr
  · obtain ⟨eL, eX⟩ := de_no hc
    rw [eL, eX]
    exact implDeepestOf_no A1 A2 c1 c2 ds ss src co si hy n w h hc
end Go.Proofs.Ytopggkomkfjbfaa
