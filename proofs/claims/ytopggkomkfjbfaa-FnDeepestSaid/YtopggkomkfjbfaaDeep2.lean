/- DeepestOf, by the reference. -/
import Derived.Test.YtopggkomkfjbfaaDeep0
import Derived.Test.YtopggkomkfjbfaaCellB
import Derived.Test.YtopggkomkfjbfaaState
import Derived.Test.YtopggkomkfjbfaaNext
import Derived.BigRegion
import Derived.Deep.Cut
import Derived.Deep.DeepCutAuto
import Derived.Deep.QuietTactic
import Derived.BigQuiet
namespace Go.Proofs.Ytopggkomkfjbfaa
set_option linter.unusedSimpArgs false
set_option linter.unusedVariables false
open Go.RowKit

theorem max3 {a b c d m n : Int} (h1 : max b c = m) (h2 : max a m = n) (h : d = max (max a b) c) : d = n := by omega
theorem max2 {a b d n : Int} (h2 : max a b = n) (h : d = max a b) : d = n := by omega
theorem turn_va {ds ss : List Int} {src co si hy : Int} {x : Rs} (r : RayOk ds ss src co si hy) (hx : RsOk ss src co hy x) (h : rsEv ds ss src co hy x = 2) : vaE 2 ds ss src co si hy (layK x.k x.d) x.d = 0 := by
  obtain ⟨hi, hf⟩ := ev_turn h
  obtain ⟨l0, l1⟩ := lay_bd r hx.k0 hx.k1 hi
  obtain ⟨n0, n1, f0, f1, hn, hf, -⟩ := turn_facts r hx h
  have h0 : rayE ds ss src co si hy 0 = 0 := rayE_zero (k := 0) r
  have ha : arcE ds ss src co si hy (layK x.k x.d) = 0 := by
    unfold arcE
    have : inB (layK x.k x.d) 0 ((ds.length : Int) - 2) = true := by have := r.l2; have := r.l3; simp [inB]; omega
    rw [if_pos h0, this, if_pos rfl]
  unfold vaE
  have : vdI ss src co hy (nearK (layK x.k x.d) x.d) (farK (layK x.k x.d) x.d) = 2 := by unfold vdI; rw [hn, hf]; rfl
  rw [if_pos ha, if_pos this]
set_option maxRecDepth 4000 in
set_option maxHeartbeats 16000000 in
theorem specDeepestOf_no (A1 A2 : Option Addr) (c1 c2 : Nat) (ds ss : List Int) (src co si hy n : Int) (w : World) (h : ProfAt w A1 c1 A2 c2 ds ss) (hc : trCo ds ss src co si hy n ≠ 0) :
    Calls Try.prog 19 #[profV A1 ds.length c1 A2 ss.length c2, .int .i64 src, dirV co si hy, .int .i64 n] w fun e w' =>
      e = .returned (.tuple #[ivV 0 0, .int .i64 (trCo ds ss src co si hy n)]) ∧ Below w.heap.size w w' := by
  have hE2 : (trCo ds ss src co si hy n != 0) = true := by simpa using hc
  have H := Lib.hid h; have HC := Lib.hid hc; clear h hc
  go_enter Try.func19, Try.ntmps19
  go_wp2_with (go_at_call 51; refine (specTrace_no _ _ _ _ _ _ _ _ _ _ _ _ ⟨(H.out.1.below (B := w.heap.size) (by first | exact Below.refl _ _ | (go_grown; done) | exact bdrewN (by go_grown) _) (Nat.le_refl _)), (H.out.2.below (B := w.heap.size) (by first | exact Below.refl _ _ | (go_grown; done) | exact bdrewN (by go_grown) _) (Nat.le_refl _))⟩ HC.out).mono ?_; rintro e w1 ⟨rfl, hb1⟩; obtain ⟨B1, hz1, q1, s1, t1, x1, y1, z1⟩ := bkeep (w := w) [w.heap.size, w.heap.size + 1, w.heap.size + 2] (by first | (simp; done) | (simp; omega)) (by first | (go_grown; done) | exact bdrewN (by go_grown) _) hb1; (try simp at hz1); clear hb1)
  refine bodyPost_ret (by simp [results, Try.results19, go_sem, *] <;> rfl) rfl ?_
  refine ⟨rfl, ?_⟩
  go_grown
set_option maxRecDepth 4000 in
set_option maxHeartbeats 16000000 in
theorem specDeepestOf_ok (A1 A2 : Option Addr) (c1 c2 : Nat) (ds ss : List Int) (src co si hy : Int) (m : Nat) (w : World) (h : ProfAt w A1 c1 A2 c2 ds ss) (r : RayOk ds ss src co si hy) (hm : m ≤ 100) (hr : rsC ds ss src co hy (rs0 src si) m = 0) :
    Calls Try.prog 19 #[profV A1 ds.length c1 A2 ss.length c2, .int .i64 src, dirV co si hy, .int .i64 (m : Int)] w fun e w' =>
      e = .returned (.tuple #[ivV (dpLo ds ss src co hy (rs0 src si) m) (dpHi ds ss src co hy (rs0 src si) m), .int .i64 0]) ∧ Below w.heap.size w w' := by
  have hn := Nat.le_trans h.1.1 h.1.2.1
  have l0 := r.l0; have l1 := r.l1; have l2 := r.l2; have l3 := r.l3; have s0 := r.s0; have s1 := r.s1
  have H := Lib.hid h; have RR := Lib.hid r; have HR := Lib.hid hr; clear h r hr
  have TRC : ∀ w, ProfAt w A1 c1 A2 c2 ds ss → _ := fun w h => specTrace_ok A1 A2 c1 c2 ds ss src co si hy m w h RR.out hm HR.out
  have TR := Lib.hid TRC; clear TRC
  obtain ⟨bb, oo, rfl, hbb, qq⟩ := H.out.1.spd (by omega)
  have QQ := Lib.hid qq; clear qq
  obtain ⟨ks, rfl⟩ := Int.eq_ofNat_of_zero_le s0
  have hks : ks < ds.length := by omega
  have cS := QQ.out ks hks
  go_enter Try.func19, Try.ntmps19
  go_upto_region 4 with (go_at_call 51; refine (TR.out _ ⟨(H.out.1.below (B := w.heap.size) (by first | exact Below.refl _ _ | (go_grown; done) | exact bdrewN (by go_grown) _) (Nat.le_refl _)), (H.out.2.below (B := w.heap.size) (by first | exact Below.refl _ _ | (go_grown; done) | exact bdrewN (by go_grown) _) (Nat.le_refl _))⟩).mono ?_; rintro e w1 ⟨⟨As, cs, Ae, ce, rfl, R1, R2⟩, hb1⟩; have V1 := Lib.hid R2.at; have V2 := Lib.hid R1.at; clear R1 R2; obtain ⟨B1, hz1, q1, s1, t1, x1, y1, z1⟩ := bkeep (w := w) [w.heap.size, w.heap.size + 1, w.heap.size + 2] (by first | (simp; done) | (simp; omega)) (by first | (go_grown; done) | exact bdrewN (by go_grown) _) hb1; (try simp at hz1); clear hb1)
  have lbb : bb < w1.heap.size := by have := B1.size; omega
  have lbb1 : bb < w1.heap.size + 1 := by omega
  have la1_0 : w.heap.size < w1.heap.size := by omega
  have lb1_0 : w.heap.size < w1.heap.size + 1 := by omega
  have lc1_0 : w.heap.size < w1.heap.size + 1 + 1 := by omega
  have la1_1 : w.heap.size + 1 < w1.heap.size := by omega
  have lb1_1 : w.heap.size + 1 < w1.heap.size + 1 := by omega
  have lc1_1 : w.heap.size + 1 < w1.heap.size + 1 + 1 := by omega
  have la1_2 : w.heap.size + 1 + 1 < w1.heap.size := by omega
  have lb1_2 : w.heap.size + 1 + 1 < w1.heap.size + 1 := by omega
  have lc1_2 : w.heap.size + 1 + 1 < w1.heap.size + 1 + 1 := by omega
  have dS1 := (bold B1 bb (oo + ks) hbb).trans cS
  refine genS (S := fun w' => Below (w.heap.size) w w' ∧ w.heap.size < w'.heap.size ∧ w.heap.size + 1 < w'.heap.size ∧ w.heap.size + 1 + 1 < w'.heap.size ∧ bb < w'.heap.size ∧ w'.cell? ⟨w.heap.size, 0, none⟩ = some (.slice (some ⟨bb, oo, none⟩) ds.length c1) ∧ w'.cell? ⟨w.heap.size, 1, none⟩ = some (.slice A2 ss.length c2) ∧ w'.cell? ⟨w.heap.size + 1, 0, none⟩ = some (.int .i64 co) ∧ w'.cell? ⟨w.heap.size + 1, 1, none⟩ = some (.int .i64 si) ∧ w'.cell? ⟨w.heap.size + 1, 2, none⟩ = some (.int .i64 hy) ∧ w'.cell? ⟨w.heap.size + 1 + 1, 0, none⟩ = some (.int .i64 0) ∧ w'.cell? ⟨w.heap.size + 1 + 1, 1, none⟩ = some (.int .i64 0) ∧ (∀ o, w'.frozen? ⟨w.heap.size + 1 + 1, o, none⟩ = false) ∧ IntsAt w' Ae ce (trE ds ss ↑ks co hy (rs0 ↑ks si) m) ∧ KAt w' As cs 4 ((trS ds ss ↑ks co hy (rs0 ↑ks si) m).map rsCell) ∧ w'.cell? ⟨bb, oo + ks, none⟩ = some (.int .i64 (spd ds ↑ks))) ⟨(by first | with_reducible exact B1 | (go_grown; done) | with_reducible exact bdrewN B1 _ | (go_grown <;> first | with_reducible exact bdrewN B1 _ | with_reducible exact B1)), by first | omega | (simp; done) | (simp; omega), by first | omega | (simp; done) | (simp; omega), by first | omega | (simp; done) | (simp; omega), by first | omega | (simp; done) | (simp; omega), by simp [*, go_sem], by simp [*, go_sem], by simp [*, go_sem], by simp [*, go_sem], by simp [*, go_sem], by simp [*, go_sem], by simp [*, go_sem], fun o => by simp [*, go_sem], V1.out.below (B := w1.heap.size) (by go_grown) (Nat.le_refl _), V2.out.below (B := w1.heap.size) (by go_grown) (Nat.le_refl _), by simp [*, go_sem]⟩ ?_
  clear q1 s1 t1 x1 y1 V1 V2 dS1
  rintro w2 ⟨B2, lt2_0, lt2_1, lt2_2, lt2_3, c2_0, c2_1, c2_2, c2_3, c2_4, c2_5, c2_6, fz2_0, GE, GS, dS⟩
  have z2 : w.heap.size ≤ w2.heap.size := B2.size
  have VE := Lib.hid GE; have VS := Lib.hid GS; have HB := Lib.hid B2; clear GE GS B2
  have nbw1 : bb ≠ w.heap.size := by omega
  have nbw2 : bb ≠ w2.heap.size := by omega
  go_region
  have la2_0 : w.heap.size < w2.heap.size := by omega
  have lb2_0 : w.heap.size < w2.heap.size + 1 := by omega
  have lc2_0 : w.heap.size < w2.heap.size + 1 + 1 := by omega
  have la2_1 : w.heap.size + 1 < w2.heap.size := by omega
  have lb2_1 : w.heap.size + 1 < w2.heap.size + 1 := by omega
  have lc2_1 : w.heap.size + 1 < w2.heap.size + 1 + 1 := by omega
  have la2_2 : w.heap.size + 1 + 1 < w2.heap.size := by omega
  have lb2_2 : w.heap.size + 1 + 1 < w2.heap.size + 1 := by omega
  have lc2_2 : w.heap.size + 1 + 1 < w2.heap.size + 1 + 1 := by omega
  have la2_3 : bb < w2.heap.size := by omega
  have lb2_3 : bb < w2.heap.size + 1 := by omega
  have lc2_3 : bb < w2.heap.size + 1 + 1 := by omega
  refine genS (S := fun w' => Below (w2.heap.size) w2 w' ∧ w2.heap.size < w'.heap.size ∧ w'.cell? ⟨w.heap.size, 0, none⟩ = some (.slice (some ⟨bb, oo, none⟩) ds.length c1) ∧ w'.cell? ⟨w.heap.size, 1, none⟩ = some (.slice A2 ss.length c2) ∧ w'.cell? ⟨w.heap.size + 1, 0, none⟩ = some (.int .i64 co) ∧ w'.cell? ⟨w.heap.size + 1, 1, none⟩ = some (.int .i64 si) ∧ w'.cell? ⟨w.heap.size + 1, 2, none⟩ = some (.int .i64 hy) ∧ w'.cell? ⟨w.heap.size + 1 + 1, 0, none⟩ = some (.int .i64 0) ∧ w'.cell? ⟨w.heap.size + 1 + 1, 1, none⟩ = some (.int .i64 0) ∧ w'.cell? ⟨w2.heap.size, 0, none⟩ = some (.int .i64 (spd ds ↑ks)) ∧ w'.cell? ⟨w2.heap.size, 1, none⟩ = some (.int .i64 (spd ds ↑ks)) ∧ (∀ o, w'.frozen? ⟨w2.heap.size, o, none⟩ = false) ∧ (∀ o, w'.frozen? ⟨w.heap.size + 1 + 1, o, none⟩ = false)) ⟨by go_grown, by first | omega | (simp; done) | (simp; omega), by simp [*, go_sem], by simp [*, go_sem], by simp [*, go_sem], by simp [*, go_sem], by simp [*, go_sem], by simp [*, go_sem], by simp [*, go_sem], by simp [*, go_sem], by simp [*, go_sem], fun o => by simp [*, go_sem], fun o => by simp [*, go_sem]⟩ ?_
  clear fz2_0 c2_0 c2_1 c2_2 c2_3 c2_4 c2_5 c2_6
  rintro w3 ⟨B3, lt3_0, c3_0, c3_1, c3_2, c3_3, c3_4, c3_5, c3_6, c3_7, c3_8, fz3_0, fz3_1⟩
  have z3 : w2.heap.size ≤ w3.heap.size := B3.size
  have HB3 := Lib.hid B3; clear B3
  go_upto_region 6 with (go_at_call 52; refine (l07First_any _ _ _ _ _).mono ?_; rintro e w4 ⟨rfl, hb4⟩; obtain ⟨B4, hz4, q4, s4, t4, x4, y4, z4⟩ := bkeep (w := w3) [w.heap.size, w.heap.size + 1, w.heap.size + 2, w2.heap.size] (by first | (simp; done) | (simp; omega)) (by first | (go_grown; done) | exact bdrewN (by go_grown) _) hb4; (try simp at hz4); clear hb4)
  have C4 := HB3.out.trans (B4.mono (show w2.heap.size ≤ w3.heap.size by omega))
  have la4_0 : w.heap.size < w4.heap.size := by omega
  have lb4_0 : w.heap.size < w4.heap.size + 1 := by omega
  have lc4_0 : w.heap.size < w4.heap.size + 1 + 1 := by omega
  have la4_1 : w.heap.size + 1 < w4.heap.size := by omega
  have lb4_1 : w.heap.size + 1 < w4.heap.size + 1 := by omega
  have lc4_1 : w.heap.size + 1 < w4.heap.size + 1 + 1 := by omega
  have la4_2 : w.heap.size + 1 + 1 < w4.heap.size := by omega
  have lb4_2 : w.heap.size + 1 + 1 < w4.heap.size + 1 := by omega
  have lc4_2 : w.heap.size + 1 + 1 < w4.heap.size + 1 + 1 := by omega
  have la4_3 : w2.heap.size < w4.heap.size := by omega
  have lb4_3 : w2.heap.size < w4.heap.size + 1 := by omega
  have lc4_3 : w2.heap.size < w4.heap.size + 1 + 1 := by omega
  refine genS (S := fun w' => Below (w2.heap.size) w2 w' ∧ w4.heap.size < w'.heap.size ∧ w'.cell? ⟨w.heap.size, 0, none⟩ = some (.slice (some ⟨bb, oo, none⟩) ds.length c1) ∧ w'.cell? ⟨w.heap.size, 1, none⟩ = some (.slice A2 ss.length c2) ∧ w'.cell? ⟨w.heap.size + 1, 0, none⟩ = some (.int .i64 co) ∧ w'.cell? ⟨w.heap.size + 1, 1, none⟩ = some (.int .i64 si) ∧ w'.cell? ⟨w.heap.size + 1, 2, none⟩ = some (.int .i64 hy) ∧ w'.cell? ⟨w.heap.size + 1 + 1, 0, none⟩ = some (.int .i64 0) ∧ w'.cell? ⟨w.heap.size + 1 + 1, 1, none⟩ = some (.int .i64 0) ∧ w'.cell? ⟨w2.heap.size, 0, none⟩ = some (.int .i64 (spd ds ↑ks)) ∧ w'.cell? ⟨w2.heap.size, 1, none⟩ = some (.int .i64 (spd ds ↑ks)) ∧ w'.cell? ⟨w4.heap.size, 0, none⟩ = some (.int .i64 ↑ks) ∧ w'.cell? ⟨w4.heap.size, 1, none⟩ = some (.bool (decide (0 < si))) ∧ w'.cell? ⟨w4.heap.size, 2, none⟩ = some (.int .i64 0) ∧ w'.cell? ⟨w4.heap.size, 3, none⟩ = some (.int .i64 0) ∧ (∀ o, w'.frozen? ⟨w2.heap.size, o, none⟩ = false) ∧ (∀ o, w'.frozen? ⟨w4.heap.size, o, none⟩ = false) ∧ (∀ o, w'.frozen? ⟨w.heap.size + 1 + 1, o, none⟩ = false)) ⟨by go_grown, by first | omega | (simp; done) | (simp; omega), by simp [*, go_sem], by simp [*, go_sem], by simp [*, go_sem], by simp [*, go_sem], by simp [*, go_sem], by simp [*, go_sem], by simp [*, go_sem], by simp [*, go_sem], by simp [*, go_sem], by simp [*, go_sem], by simp [*, go_sem], by simp [*, go_sem], by simp [*, go_sem], fun o => by simp [*, go_sem], fun o => by simp [*, go_sem], fun o => by simp [*, go_sem]⟩ ?_
  clear q4 s4 t4 x4 y4 B4 C4 fz3_0 fz3_1 c3_0 c3_1 c3_2 c3_3 c3_4 c3_5 c3_6 c3_7 c3_8
  rintro w5 ⟨B5, lt5_0, c5_0, c5_1, c5_2, c5_3, c5_4, c5_5, c5_6, c5_7, c5_8, c5_9, c5_10, c5_11, c5_12, fz5_0, fz5_1, fz5_2⟩
  have z5 : w2.heap.size ≤ w5.heap.size := B5.size
  have HB5 := Lib.hid B5; clear B5
  go_wp2
  go_loopw [15] (fun i wr => ∃ (k : Nat) (xk : Int) (xd : Bool) (xl xh lo hi : Int), k ≤ m ∧ i = .int .i64 k ∧ Hid (rsAt ds ss ↑ks co hy (rs0 ↑ks si) k = ⟨xk, xd, xl, xh⟩) ∧ Hid (dpLo ds ss ↑ks co hy (rs0 ↑ks si) k = lo) ∧ Hid (dpHi ds ss ↑ks co hy (rs0 ↑ks si) k = hi) ∧ Below w2.heap.size w5 wr ∧ w4.heap.size < wr.heap.size ∧ wr.cell? ⟨w2.heap.size, 0, none⟩ = some (.int .i64 lo) ∧ wr.cell? ⟨w2.heap.size, 1, none⟩ = some (.int .i64 hi) ∧ wr.cell? ⟨w4.heap.size, 0, none⟩ = some (.int .i64 xk) ∧ wr.cell? ⟨w4.heap.size, 1, none⟩ = some (.bool xd) ∧ wr.cell? ⟨w4.heap.size, 2, none⟩ = some (.int .i64 xl) ∧ wr.cell? ⟨w4.heap.size, 3, none⟩ = some (.int .i64 xh) ∧ (∀ o, wr.frozen? ⟨w2.heap.size, o, none⟩ = false) ∧ (∀ o, wr.frozen? ⟨w4.heap.size, o, none⟩ = false)) (fun i _ => m - (intOf i).toNat)
  case atStart => exact ⟨0, ↑ks, decide (0 < si), 0, 0, spd ds ↑ks, spd ds ↑ks, by omega, rfl, Lib.hid rfl, Lib.hid rfl, Lib.hid rfl, Below.refl _ _, lt5_0, c5_7, c5_8, c5_9, c5_10, c5_11, c5_12, fz5_0, fz5_1⟩
  case round =>
    obtain ⟨k, xk, xd, xl, xh, lo, hi, hk, rfl, hx, hlo, hhi, Br, lwr, o0, o1, b0, b1, b2, b3, fo, fb⟩ := hrel
    have sr : w5.heap.size ≤ wr.heap.size := Br.size
    have HBr := Lib.hid Br
    have CB : Below w2.heap.size w2 wr := HB5.out.trans Br
    have HC := Lib.hid CB
    have HW := Lib.hid (HB.out.trans (CB.mono (show w.heap.size ≤ w2.heap.size by omega)))
    have HP := Lib.hid (H.out.below HW.out (Nat.le_refl _))
    have r0 := (bAt Br (b := w.heap.size) (o := 0) (by omega)).trans c5_0
    have r1 := (bAt Br (b := w.heap.size) (o := 1) (by omega)).trans c5_1
    have r2 := (bAt Br (b := w.heap.size + 1) (o := 0) (by omega)).trans c5_2
    have r3 := (bAt Br (b := w.heap.size + 1) (o := 1) (by omega)).trans c5_3
    have r4 := (bAt Br (b := w.heap.size + 1) (o := 2) (by omega)).trans c5_4
    have r5 := (bAt Br (b := w.heap.size + 1 + 1) (o := 0) (by omega)).trans c5_5
    have r6 := (bAt Br (b := w.heap.size + 1 + 1) (o := 1) (by omega)).trans c5_6
    have fR := fun o => (bAtF Br (b := w.heap.size + 1 + 1) (o := o) (by omega)).trans (fz5_2 o)
    clear c5_0 c5_1 c5_2 c5_3 c5_4 c5_5 c5_6 c5_7 c5_8 c5_9 c5_10 c5_11 c5_12 fz5_0 fz5_1 fz5_2 Br CB
    by_cases hlt : k < m
    · have hok := rs_at0 RR.out k (no_limit RR.out k (by omega)).1
      have hok2 := rs_at0 RR.out (k + 1) (no_limit RR.out (k + 1) (by omega)).1
      obtain ⟨be, oe, rfl, hbe, cE_⟩ := event_cell VE.out hlt
      obtain ⟨bs, os, rfl, hbs, cs0_, cs1_, cs2_, cs3_⟩ := state_cells VS.out hlt
      have cE := (bAt HC.out (b := be) (o := oe + k) hbe).trans cE_
      have cs0 := (bAt HC.out (b := bs) (o := os + k * 4) hbs).trans cs0_
      have cs1 := (bAt HC.out (b := bs) (o := os + k * 4 + 1) hbs).trans cs1_
      have cs2 := (bAt HC.out (b := bs) (o := os + k * 4 + 2) hbs).trans cs2_
      have cs3 := (bAt HC.out (b := bs) (o := os + k * 4 + 3) hbs).trans cs3_
      clear cE_ cs0_ cs1_ cs2_ cs3_
      have hlo2 := dpLo_succ ds ss ↑ks co hy (rs0 ↑ks si) k
      have hhi2 := dpHi_succ ds ss ↑ks co hy (rs0 ↑ks si) k
      obtain ⟨yk, yd, yl, yh, hy2⟩ := rs_ex (rsAt ds ss ↑ks co hy (rs0 ↑ks si) (k + 1))
      rw [hx.out] at hok cE hlo2 hhi2
      rw [hy2] at hok2 cs0 cs1 cs2 cs3 hlo2 hhi2
      rw [hlo.out] at hlo2
      rw [hhi.out] at hhi2
      simp only at cs0 cs1 cs2 cs3 hlo2 hhi2
      have y0 := hok2.k0; have y1 := hok2.k1
      simp only at y0 y1
      obtain ⟨q, rfl⟩ := Int.eq_ofNat_of_zero_le y0
      have hq : q < ds.length := by omega
      have dQ := (bAt HW.out (b := bb) (o := oo + q) hbb).trans (QQ.out q hq)
      have X0 := hok.k0; have X1 := hok.k1
      simp only at X0 X1
      have HOK := Lib.hid hok
      obtain ⟨ev, hev⟩ : ∃ ev, rsEv ds ss ↑ks co hy ⟨xk, xd, xl, xh⟩ = ev := ⟨_, rfl⟩
      rw [hev] at cE hlo2 hhi2
      have HV := Lib.hid hev; have HL := Lib.hid hlo2; have HI := Lib.hid hhi2; have HY := Lib.hid hy2
      clear hok hok2 hev hlo2 hhi2 hy2 y0 y1
      have lbe : be < wr.heap.size := by omega
      have lbs : bs < wr.heap.size := by omega
      have lbq : bb < wr.heap.size := by omega
      have gk : (k : Int) < m := by omega
      have gk0 : (0 : Int) ≤ k := by omega
      have gq : (q : Int) < ds.length := by omega
      have gq0 : (0 : Int) ≤ q := by omega
      go_upto_region 9 with fail
      go_quiet (fail)
      go_upto_region 10 with fail
      refine genS (S := fun w' => Below (w2.heap.size) w5 w' ∧ w.heap.size < w'.heap.size ∧ w.heap.size + 1 < w'.heap.size ∧ w.heap.size + 1 + 1 < w'.heap.size ∧ w2.heap.size < w'.heap.size ∧ w4.heap.size < w'.heap.size ∧ be < w'.heap.size ∧ bs < w'.heap.size ∧ w'.cell? ⟨w.heap.size, 0, none⟩ = some (.slice (some ⟨bb, oo, none⟩) ds.length c1) ∧ w'.cell? ⟨w.heap.size, 1, none⟩ = some (.slice A2 ss.length c2) ∧ w'.cell? ⟨w.heap.size + 1, 0, none⟩ = some (.int .i64 co) ∧ w'.cell? ⟨w.heap.size + 1, 1, none⟩ = some (.int .i64 si) ∧ w'.cell? ⟨w.heap.size + 1, 2, none⟩ = some (.int .i64 hy) ∧ w'.cell? ⟨w.heap.size + 1 + 1, 0, none⟩ = some (.int .i64 0) ∧ w'.cell? ⟨w.heap.size + 1 + 1, 1, none⟩ = some (.int .i64 0) ∧ w'.cell? ⟨w2.heap.size, 0, none⟩ = some (.int .i64 lo) ∧ w'.cell? ⟨w2.heap.size, 1, none⟩ = some (.int .i64 hi) ∧ w'.cell? ⟨w4.heap.size, 0, none⟩ = some (.int .i64 xk) ∧ w'.cell? ⟨w4.heap.size, 1, none⟩ = some (.bool xd) ∧ w'.cell? ⟨w4.heap.size, 2, none⟩ = some (.int .i64 xl) ∧ w'.cell? ⟨w4.heap.size, 3, none⟩ = some (.int .i64 xh) ∧ (∀ o, w'.frozen? ⟨w2.heap.size, o, none⟩ = false) ∧ (∀ o, w'.frozen? ⟨w4.heap.size, o, none⟩ = false) ∧ w'.cell? ⟨be, oe + k, none⟩ = some (.int .i64 ev) ∧ w'.cell? ⟨bs, os + k * 4, none⟩ = some (.int .i64 ↑q) ∧ w'.cell? ⟨bs, os + k * 4 + 1, none⟩ = some (.bool yd) ∧ w'.cell? ⟨bs, os + k * 4 + 2, none⟩ = some (.int .i64 yl) ∧ w'.cell? ⟨bs, os + k * 4 + 3, none⟩ = some (.int .i64 yh) ∧ wr.heap.size ≤ w'.heap.size) ⟨by first | exact HBr.out | (have hb_ := HBr.out; go_grown; done) | (have hb_ := HBr.out; exact bdrewN (by go_grown) _) | (have hb_ := HBr.out; go_grown <;> exact bdrewN (by go_grown) _), by first | omega | (simp; done) | (simp; omega), by first | omega | (simp; done) | (simp; omega), by first | omega | (simp; done) | (simp; omega), by first | omega | (simp; done) | (simp; omega), by first | omega | (simp; done) | (simp; omega), by first | omega | (simp; done) | (simp; omega), by first | omega | (simp; done) | (simp; omega), by simp [*, go_sem], by simp [*, go_sem], by simp [*, go_sem], by simp [*, go_sem], by simp [*, go_sem], by simp [*, go_sem], by simp [*, go_sem], by simp [*, go_sem], by simp [*, go_sem], by simp [*, go_sem], by simp [*, go_sem], by simp [*, go_sem], by simp [*, go_sem], fun o => by simp [*, go_sem], fun o => by simp [*, go_sem], by simp [*, go_sem], by simp [*, go_sem], by simp [*, go_sem], by simp [*, go_sem], by simp [*, go_sem], by first | omega | (simp; done) | (simp; omega)⟩ ?_
      clear r0 r1 r2 r3 r4 r5 r6 o0 o1 b0 b1 b2 b3 fo fb cE cs0 cs1 cs2 cs3 dQ fR
      rintro w25 ⟨B25, lt25_0, lt25_1, lt25_2, lt25_3, lt25_4, lt25_5, lt25_6, c25_0, c25_1, c25_2, c25_3, c25_4, c25_5, c25_6, c25_7, c25_8, c25_9, c25_10, c25_11, c25_12, fz25_0, fz25_1, de25, s25_0, s25_1, s25_2, s25_3, gr25⟩
      have z25 : w5.heap.size ≤ w25.heap.size := B25.size
      have HB25 := Lib.hid B25; clear B25
      go_upto_region 11 with fail
      obtain ⟨npa1, npb1, npa2, npb2, npa3, npb3, npa4, npb4, npa5, npb5, npa6, npb6, npa7, npb7, npa8, npb8, npa9, npb9, npa10, npb10, npa11, npb11, npa12, npb12, npa13, npb13, npa14, npb14, npa15, npb15, npa16, npb16, npa17, npb17, npa18, npb18⟩ : (w2.heap.size = w.heap.size) = False ∧ (w.heap.size = w2.heap.size) = False ∧ (w2.heap.size = w.heap.size + 1) = False ∧ (w.heap.size + 1 = w2.heap.size) = False ∧ (w2.heap.size = w.heap.size + 1 + 1) = False ∧ (w.heap.size + 1 + 1 = w2.heap.size) = False ∧ (w2.heap.size = w4.heap.size) = False ∧ (w4.heap.size = w2.heap.size) = False ∧ (w2.heap.size = w25.heap.size) = False ∧ (w25.heap.size = w2.heap.size) = False ∧ (w2.heap.size = be) = False ∧ (be = w2.heap.size) = False ∧ (w2.heap.size = bs) = False ∧ (bs = w2.heap.size) = False ∧ (w4.heap.size = w.heap.size) = False ∧ (w.heap.size = w4.heap.size) = False ∧ (w4.heap.size = w.heap.size + 1) = False ∧ (w.heap.size + 1 = w4.heap.size) = False ∧ (w4.heap.size = w.heap.size + 1 + 1) = False ∧ (w.heap.size + 1 + 1 = w4.heap.size) = False ∧ (w4.heap.size = w25.heap.size) = False ∧ (w25.heap.size = w4.heap.size) = False ∧ (w4.heap.size = be) = False ∧ (be = w4.heap.size) = False ∧ (w4.heap.size = bs) = False ∧ (bs = w4.heap.size) = False ∧ (w25.heap.size = w.heap.size) = False ∧ (w.heap.size = w25.heap.size) = False ∧ (w25.heap.size = w.heap.size + 1) = False ∧ (w.heap.size + 1 = w25.heap.size) = False ∧ (w25.heap.size = w.heap.size + 1 + 1) = False ∧ (w.heap.size + 1 + 1 = w25.heap.size) = False ∧ (w25.heap.size = be) = False ∧ (be = w25.heap.size) = False ∧ (w25.heap.size = bs) = False ∧ (bs = w25.heap.size) = False := by
        refine ⟨?_, ?_, ?_, ?_, ?_, ?_, ?_, ?_, ?_, ?_, ?_, ?_, ?_, ?_, ?_, ?_, ?_, ?_, ?_, ?_, ?_, ?_, ?_, ?_, ?_, ?_, ?_, ?_, ?_, ?_, ?_, ?_, ?_, ?_, ?_, ?_⟩ <;> exact eq_false (by omega)
      refine genS (S := fun w' => Below (w2.heap.size) w5 w' ∧ w4.heap.size < w'.heap.size ∧ w25.heap.size < w'.heap.size ∧ bs < w'.heap.size ∧ w'.cell? ⟨w.heap.size, 0, none⟩ = some (.slice (some ⟨bb, oo, none⟩) ds.length c1) ∧ w'.cell? ⟨w.heap.size, 1, none⟩ = some (.slice A2 ss.length c2) ∧ w'.cell? ⟨w.heap.size + 1, 0, none⟩ = some (.int .i64 co) ∧ w'.cell? ⟨w.heap.size + 1, 1, none⟩ = some (.int .i64 si) ∧ w'.cell? ⟨w.heap.size + 1, 2, none⟩ = some (.int .i64 hy) ∧ w'.cell? ⟨w.heap.size + 1 + 1, 0, none⟩ = some (.int .i64 0) ∧ w'.cell? ⟨w.heap.size + 1 + 1, 1, none⟩ = some (.int .i64 0) ∧ w'.cell? ⟨w2.heap.size, 0, none⟩ = some (.int .i64 lo) ∧ w'.cell? ⟨w2.heap.size, 1, none⟩ = some (.int .i64 hi) ∧ w'.cell? ⟨w4.heap.size, 0, none⟩ = some (.int .i64 xk) ∧ w'.cell? ⟨w4.heap.size, 1, none⟩ = some (.bool xd) ∧ w'.cell? ⟨w4.heap.size, 2, none⟩ = some (.int .i64 xl) ∧ w'.cell? ⟨w4.heap.size, 3, none⟩ = some (.int .i64 xh) ∧ w'.cell? ⟨w25.heap.size, 0, none⟩ = some (.int .i64 (spd ds ↑q)) ∧ w'.cell? ⟨w25.heap.size, 1, none⟩ = some (.int .i64 (spd ds ↑q)) ∧ (∀ o, w'.frozen? ⟨w2.heap.size, o, none⟩ = false) ∧ (∀ o, w'.frozen? ⟨w4.heap.size, o, none⟩ = false) ∧ (∀ o, w'.frozen? ⟨w25.heap.size, o, none⟩ = false) ∧ w'.cell? ⟨be, oe + k, none⟩ = some (.int .i64 ev) ∧ w'.cell? ⟨bs, os + k * 4, none⟩ = some (.int .i64 ↑q) ∧ w'.cell? ⟨bs, os + k * 4 + 1, none⟩ = some (.bool yd) ∧ w'.cell? ⟨bs, os + k * 4 + 2, none⟩ = some (.int .i64 yl) ∧ w'.cell? ⟨bs, os + k * 4 + 3, none⟩ = some (.int .i64 yh)) ⟨by have hb_ := HB25.out; first | exact hb_ | (go_grown; done) | exact bdrewN (by go_grown) _, by first | omega | (simp; done) | (simp; omega), by first | omega | (simp; done) | (simp; omega), by first | omega | (simp; done) | (simp; omega), by simp [*, go_sem], by simp [*, go_sem], by simp [*, go_sem], by simp [*, go_sem], by simp [*, go_sem], by simp [*, go_sem], by simp [*, go_sem], by simp [*, go_sem], by simp [*, go_sem], by simp [*, go_sem], by simp [*, go_sem], by simp [*, go_sem], by simp [*, go_sem], by simp [*, go_sem], by simp [*, go_sem], fun o => by simp [*, go_sem], fun o => by simp [*, go_sem], fun o => by simp [*, go_sem], by simp [*, go_sem], by simp [*, go_sem], by simp [*, go_sem], by simp [*, go_sem], by simp [*, go_sem]⟩ ?_
      clear c25_0 c25_1 c25_2 c25_3 c25_4 c25_5 c25_6 c25_7 c25_8 c25_9 c25_10 c25_11 c25_12 fz25_0 fz25_1 de25 s25_0 s25_1 s25_2 s25_3
      rintro w6 ⟨B6, lt6_0, lt6_1, lt6_2, c6_0, c6_1, c6_2, c6_3, c6_4, c6_5, c6_6, c6_7, c6_8, c6_9, c6_10, c6_11, c6_12, c6_13, c6_14, fz6_0, fz6_1, fz6_2, de6, s6_0, s6_1, s6_2, s6_3⟩
      have z6 : w5.heap.size ≤ w6.heap.size := B6.size
      have HB6 := Lib.hid B6; clear B6
      by_cases hev2 : ev = 2
      · have tf := turn_facts RR.out HOK.out (HV.out.trans hev2)
        have td := turn_td RR.out HOK.out (HV.out.trans hev2)
        have va := turn_va RR.out HOK.out (HV.out.trans hev2)
        dsimp only at tf td va
        obtain ⟨tn0, tn1, tf0, tf1, tcn, tcf, tin⟩ := tf
        have hl2 := HL.out; have hi2 := HI.out
        rw [if_pos hev2] at hl2 hi2
        obtain ⟨tl, htl⟩ : ∃ x, tdl ds ss ↑ks co hy ⟨xk, xd, xl, xh⟩ = x := ⟨_, rfl⟩
        obtain ⟨th, hth⟩ : ∃ x, tdh ds ss ↑ks co hy ⟨xk, xd, xl, xh⟩ = x := ⟨_, rfl⟩
        rw [htl] at hl2 td; rw [hth] at hi2 td
        have TD := Lib.hid (show ∀ w, ProfAt w (some ⟨bb, oo, none⟩) c1 A2 c2 ds ss → Calls Try.prog 54 #[profV (some ⟨bb, oo, none⟩) ds.length c1 A2 ss.length c2, .int .i64 ↑ks, dirV co si hy, .int .i64 (layK xk xd), .bool xd] w fun e w' => e = .returned (.tuple #[ivV tl th, .int .i64 0]) ∧ Below w.heap.size w w' from fun w h => by have q := specTurnDepth_any (some ⟨bb, oo, none⟩) A2 c1 c2 ds ss ↑ks co si hy (layK xk xd) xd w h; rw [td.1, td.2, va] at q; exact q)
        have LY := Lib.hid (show ∀ w, Calls Try.prog 53 #[profV (some ⟨bb, oo, none⟩) ds.length c1 A2 ss.length c2, rsV xk xd xl xh] w fun e w' => e = .returned (.tuple #[.int .i64 (layK xk xd), .bool true]) ∧ Below w.heap.size w w' from fun w => by have q := l07Layer_any (some ⟨bb, oo, none⟩) A2 c1 ss.length c2 ds xk xl xh xd w l1 X0 (by omega); rw [tin] at q; exact q)
        have HL2 := Lib.hid hl2; have HI2 := Lib.hid hi2; clear htl hth td va tn0 tn1 tf0 tf1 tcn tcf tin hl2 hi2
        have HP6 := Lib.hid (H.out.below (HB.out.trans ((HB5.out.trans HB6.out).mono (show w.heap.size ≤ w2.heap.size by omega))) (Nat.le_refl _))
        go_upto_region 13 with (go_at_call 53; refine (LY.out _).mono ?_; rintro e w7 ⟨rfl, hb7⟩; obtain ⟨B7, hz7, q7, s7, t7, x7, y7, z7⟩ := bkeep (w := w6) [w.heap.size, w.heap.size + 1, w.heap.size + 1 + 1, w2.heap.size, w4.heap.size, w25.heap.size, bs] (by first | (simp; done) | (simp; omega)) (by first | (go_grown; done) | exact bdrewN (by go_grown) _) hb7; (try simp at hz7); clear hb7)
        go_upto_region 14 with (go_at_call 54; refine (TD.out _ (HP6.out.below (B := w6.heap.size) (by first | with_reducible exact B7 | (go_grown; done) | with_reducible exact bdrewN B7 _ | (go_grown <;> first | with_reducible exact bdrewN B7 _ | with_reducible exact B7)) (Nat.le_refl _))).mono ?_; rintro e w8 ⟨rfl, hb8⟩; obtain ⟨B8, hz8, q8, s8, t8, x8, y8, z8⟩ := bkeep (w := w6) [w.heap.size, w.heap.size + 1, w.heap.size + 1 + 1, w2.heap.size, w4.heap.size, w25.heap.size, bs] (by first | (simp; done) | (simp; omega)) (by first | (go_grown; done) | exact bdrewN (by go_grown) _) hb8; (try simp at hz8); clear hb8)
        have gT : w25.heap.size < w8.heap.size := by omega
        obtain ⟨nta1, ntb1, nta2, ntb2, nta3, ntb3, nta4, ntb4, nta5, ntb5, nta6, ntb6⟩ : (w.heap.size = w8.heap.size) = False ∧ (w8.heap.size = w.heap.size) = False ∧ (w.heap.size + 1 = w8.heap.size) = False ∧ (w8.heap.size = w.heap.size + 1) = False ∧ (w.heap.size + 1 + 1 = w8.heap.size) = False ∧ (w8.heap.size = w.heap.size + 1 + 1) = False ∧ (w2.heap.size = w8.heap.size) = False ∧ (w8.heap.size = w2.heap.size) = False ∧ (w4.heap.size = w8.heap.size) = False ∧ (w8.heap.size = w4.heap.size) = False ∧ (w25.heap.size = w8.heap.size) = False ∧ (w8.heap.size = w25.heap.size) = False := by
          refine ⟨?_, ?_, ?_, ?_, ?_, ?_, ?_, ?_, ?_, ?_, ?_, ?_⟩ <;> exact eq_false (by omega)
        refine genS (S := fun w' => Below (w2.heap.size) w5 w' ∧ w4.heap.size < w'.heap.size ∧ w25.heap.size < w'.heap.size ∧ w8.heap.size < w'.heap.size ∧ w'.cell? ⟨w.heap.size, 0, none⟩ = some (.slice (some ⟨bb, oo, none⟩) ds.length c1) ∧ w'.cell? ⟨w.heap.size, 1, none⟩ = some (.slice A2 ss.length c2) ∧ w'.cell? ⟨w.heap.size + 1, 0, none⟩ = some (.int .i64 co) ∧ w'.cell? ⟨w.heap.size + 1, 1, none⟩ = some (.int .i64 si) ∧ w'.cell? ⟨w.heap.size + 1, 2, none⟩ = some (.int .i64 hy) ∧ w'.cell? ⟨w.heap.size + 1 + 1, 0, none⟩ = some (.int .i64 0) ∧ w'.cell? ⟨w.heap.size + 1 + 1, 1, none⟩ = some (.int .i64 0) ∧ w'.cell? ⟨w2.heap.size, 0, none⟩ = some (.int .i64 lo) ∧ w'.cell? ⟨w2.heap.size, 1, none⟩ = some (.int .i64 hi) ∧ w'.cell? ⟨w4.heap.size, 0, none⟩ = some (.int .i64 xk) ∧ w'.cell? ⟨w4.heap.size, 1, none⟩ = some (.bool xd) ∧ w'.cell? ⟨w4.heap.size, 2, none⟩ = some (.int .i64 xl) ∧ w'.cell? ⟨w4.heap.size, 3, none⟩ = some (.int .i64 xh) ∧ w'.cell? ⟨w25.heap.size, 0, none⟩ = some (.int .i64 (spd ds ↑q)) ∧ w'.cell? ⟨w25.heap.size, 1, none⟩ = some (.int .i64 (spd ds ↑q)) ∧ w'.cell? ⟨w8.heap.size, 0, none⟩ = some (.int .i64 tl) ∧ w'.cell? ⟨w8.heap.size, 1, none⟩ = some (.int .i64 th) ∧ (∀ o, w'.frozen? ⟨w2.heap.size, o, none⟩ = false) ∧ (∀ o, w'.frozen? ⟨w4.heap.size, o, none⟩ = false) ∧ (∀ o, w'.frozen? ⟨w25.heap.size, o, none⟩ = false) ∧ w'.cell? ⟨bs, os + k * 4, none⟩ = some (.int .i64 ↑q) ∧ w'.cell? ⟨bs, os + k * 4 + 1, none⟩ = some (.bool yd) ∧ w'.cell? ⟨bs, os + k * 4 + 2, none⟩ = some (.int .i64 yl) ∧ w'.cell? ⟨bs, os + k * 4 + 3, none⟩ = some (.int .i64 yh)) ⟨by have hb_ := HB6.out.trans (B8.mono (show w2.heap.size ≤ w6.heap.size by omega)); first | exact hb_ | (go_grown; done) | exact bdrewN (by go_grown) _, by first | omega | (simp; done) | (simp; omega), by first | omega | (simp; done) | (simp; omega), by first | omega | (simp; done) | (simp; omega), by simp [*, go_sem], by simp [*, go_sem], by simp [*, go_sem], by simp [*, go_sem], by simp [*, go_sem], by simp [*, go_sem], by simp [*, go_sem], by simp [*, go_sem], by simp [*, go_sem], by simp [*, go_sem], by simp [*, go_sem], by simp [*, go_sem], by simp [*, go_sem], by simp [*, go_sem], by simp [*, go_sem], by simp [*, go_sem], by simp [*, go_sem], fun o => by simp [*, go_sem], fun o => by simp [*, go_sem], fun o => by simp [*, go_sem], by simp [*, go_sem], by simp [*, go_sem], by simp [*, go_sem], by simp [*, go_sem]⟩ ?_
        clear q7 s7 t7 x7 y7 z7 hz7 B7 q8 s8 t8 x8 y8 z8 hz8 B8 c6_0 c6_1 c6_2 c6_3 c6_4 c6_5 c6_6 c6_7 c6_8 c6_9 c6_10 c6_11 c6_12 c6_13 c6_14 fz6_0 fz6_1 fz6_2 de6 s6_0 s6_1 s6_2 s6_3
        rintro w9 ⟨B9, lt9_0, lt9_1, lt9_2, c9_0, c9_1, c9_2, c9_3, c9_4, c9_5, c9_6, c9_7, c9_8, c9_9, c9_10, c9_11, c9_12, c9_13, c9_14, c9_15, c9_16, fz9_0, fz9_1, fz9_2, s9_0, s9_1, s9_2, s9_3⟩
        have z9 : w5.heap.size ≤ w9.heap.size := B9.size
        have HB9 := Lib.hid B9; clear B9
        obtain ⟨m1, hm1⟩ : ∃ x, max (spd ds ↑q) tl = x := ⟨_, rfl⟩
        have gm1 : (if (spd ds ↑q) < tl then tl else (spd ds ↑q)) = m1 := by rw [← hm1]; split <;> omega
        have M_m1 := Lib.hid hm1; clear hm1
        obtain ⟨m2, hm2⟩ : ∃ x, max (spd ds ↑q) th = x := ⟨_, rfl⟩
        have gm2 : (if (spd ds ↑q) < th then th else (spd ds ↑q)) = m2 := by rw [← hm2]; split <;> omega
        have M_m2 := Lib.hid hm2; clear hm2
        go_upto_region 15 with fail
        clear gm1 gm2
        refine genS (S := fun w' => Below (w2.heap.size) w5 w' ∧ w4.heap.size < w'.heap.size ∧ w25.heap.size < w'.heap.size ∧ w'.cell? ⟨w.heap.size, 0, none⟩ = some (.slice (some ⟨bb, oo, none⟩) ds.length c1) ∧ w'.cell? ⟨w.heap.size, 1, none⟩ = some (.slice A2 ss.length c2) ∧ w'.cell? ⟨w.heap.size + 1, 0, none⟩ = some (.int .i64 co) ∧ w'.cell? ⟨w.heap.size + 1, 1, none⟩ = some (.int .i64 si) ∧ w'.cell? ⟨w.heap.size + 1, 2, none⟩ = some (.int .i64 hy) ∧ w'.cell? ⟨w.heap.size + 1 + 1, 0, none⟩ = some (.int .i64 0) ∧ w'.cell? ⟨w.heap.size + 1 + 1, 1, none⟩ = some (.int .i64 0) ∧ w'.cell? ⟨w2.heap.size, 0, none⟩ = some (.int .i64 lo) ∧ w'.cell? ⟨w2.heap.size, 1, none⟩ = some (.int .i64 hi) ∧ w'.cell? ⟨w4.heap.size, 0, none⟩ = some (.int .i64 xk) ∧ w'.cell? ⟨w4.heap.size, 1, none⟩ = some (.bool xd) ∧ w'.cell? ⟨w4.heap.size, 2, none⟩ = some (.int .i64 xl) ∧ w'.cell? ⟨w4.heap.size, 3, none⟩ = some (.int .i64 xh) ∧ w'.cell? ⟨w25.heap.size, 0, none⟩ = some (.int .i64 m1) ∧ w'.cell? ⟨w25.heap.size, 1, none⟩ = some (.int .i64 m2) ∧ (∀ o, w'.frozen? ⟨w2.heap.size, o, none⟩ = false) ∧ (∀ o, w'.frozen? ⟨w4.heap.size, o, none⟩ = false) ∧ (∀ o, w'.frozen? ⟨w25.heap.size, o, none⟩ = false) ∧ w'.cell? ⟨bs, os + k * 4, none⟩ = some (.int .i64 ↑q) ∧ w'.cell? ⟨bs, os + k * 4 + 1, none⟩ = some (.bool yd) ∧ w'.cell? ⟨bs, os + k * 4 + 2, none⟩ = some (.int .i64 yl) ∧ w'.cell? ⟨bs, os + k * 4 + 3, none⟩ = some (.int .i64 yh)) ⟨by have hb_ := HB9.out; first | exact hb_ | (go_grown; done) | exact bdrewN (by go_grown) _, by first | omega | (simp; done) | (simp; omega), by first | omega | (simp; done) | (simp; omega), by simp [*, go_sem], by simp [*, go_sem], by simp [*, go_sem], by simp [*, go_sem], by simp [*, go_sem], by simp [*, go_sem], by simp [*, go_sem], by simp [*, go_sem], by simp [*, go_sem], by simp [*, go_sem], by simp [*, go_sem], by simp [*, go_sem], by simp [*, go_sem], by simp [*, go_sem], by simp [*, go_sem], fun o => by simp [*, go_sem], fun o => by simp [*, go_sem], fun o => by simp [*, go_sem], by simp [*, go_sem], by simp [*, go_sem], by simp [*, go_sem], by simp [*, go_sem]⟩ ?_
        clear c9_0 c9_1 c9_2 c9_3 c9_4 c9_5 c9_6 c9_7 c9_8 c9_9 c9_10 c9_11 c9_12 c9_13 c9_14 c9_15 c9_16 fz9_0 fz9_1 fz9_2 s9_0 s9_1 s9_2 s9_3
        rintro w10 ⟨B10, lt10_0, lt10_1, c10_0, c10_1, c10_2, c10_3, c10_4, c10_5, c10_6, c10_7, c10_8, c10_9, c10_10, c10_11, c10_12, c10_13, c10_14, fz10_0, fz10_1, fz10_2, s10_0, s10_1, s10_2, s10_3⟩
        have z10 : w5.heap.size ≤ w10.heap.size := B10.size
        have HB10 := Lib.hid B10; clear B10
        obtain ⟨n1, hn1⟩ : ∃ x, max lo m1 = x := ⟨_, rfl⟩
        have gn1 : (if lo < m1 then m1 else lo) = n1 := by rw [← hn1]; split <;> omega
        have M_n1 := Lib.hid hn1; clear hn1
        obtain ⟨n2, hn2⟩ : ∃ x, max hi m2 = x := ⟨_, rfl⟩
        have gn2 : (if hi < m2 then m2 else hi) = n2 := by rw [← hn2]; split <;> omega
        have M_n2 := Lib.hid hn2; clear hn2
        go_upto_region 16 with fail
        clear gn1 gn2
        refine genS (S := fun w' => Below (w2.heap.size) w5 w' ∧ w4.heap.size < w'.heap.size ∧ w25.heap.size < w'.heap.size ∧ w'.cell? ⟨w.heap.size, 0, none⟩ = some (.slice (some ⟨bb, oo, none⟩) ds.length c1) ∧ w'.cell? ⟨w.heap.size, 1, none⟩ = some (.slice A2 ss.length c2) ∧ w'.cell? ⟨w.heap.size + 1, 0, none⟩ = some (.int .i64 co) ∧ w'.cell? ⟨w.heap.size + 1, 1, none⟩ = some (.int .i64 si) ∧ w'.cell? ⟨w.heap.size + 1, 2, none⟩ = some (.int .i64 hy) ∧ w'.cell? ⟨w.heap.size + 1 + 1, 0, none⟩ = some (.int .i64 0) ∧ w'.cell? ⟨w.heap.size + 1 + 1, 1, none⟩ = some (.int .i64 0) ∧ w'.cell? ⟨w2.heap.size, 0, none⟩ = some (.int .i64 n1) ∧ w'.cell? ⟨w2.heap.size, 1, none⟩ = some (.int .i64 n2) ∧ w'.cell? ⟨w4.heap.size, 0, none⟩ = some (.int .i64 xk) ∧ w'.cell? ⟨w4.heap.size, 1, none⟩ = some (.bool xd) ∧ w'.cell? ⟨w4.heap.size, 2, none⟩ = some (.int .i64 xl) ∧ w'.cell? ⟨w4.heap.size, 3, none⟩ = some (.int .i64 xh) ∧ w'.cell? ⟨w25.heap.size, 0, none⟩ = some (.int .i64 m1) ∧ w'.cell? ⟨w25.heap.size, 1, none⟩ = some (.int .i64 m2) ∧ (∀ o, w'.frozen? ⟨w2.heap.size, o, none⟩ = false) ∧ (∀ o, w'.frozen? ⟨w4.heap.size, o, none⟩ = false) ∧ (∀ o, w'.frozen? ⟨w25.heap.size, o, none⟩ = false) ∧ w'.cell? ⟨bs, os + k * 4, none⟩ = some (.int .i64 ↑q) ∧ w'.cell? ⟨bs, os + k * 4 + 1, none⟩ = some (.bool yd) ∧ w'.cell? ⟨bs, os + k * 4 + 2, none⟩ = some (.int .i64 yl) ∧ w'.cell? ⟨bs, os + k * 4 + 3, none⟩ = some (.int .i64 yh)) ⟨by have hb_ := HB10.out; first | exact hb_ | (go_grown; done) | exact bdrewN (by go_grown) _, by first | omega | (simp; done) | (simp; omega), by first | omega | (simp; done) | (simp; omega), by simp [*, go_sem], by simp [*, go_sem], by simp [*, go_sem], by simp [*, go_sem], by simp [*, go_sem], by simp [*, go_sem], by simp [*, go_sem], by simp [*, go_sem], by simp [*, go_sem], by simp [*, go_sem], by simp [*, go_sem], by simp [*, go_sem], by simp [*, go_sem], by simp [*, go_sem], by simp [*, go_sem], fun o => by simp [*, go_sem], fun o => by simp [*, go_sem], fun o => by simp [*, go_sem], by simp [*, go_sem], by simp [*, go_sem], by simp [*, go_sem], by simp [*, go_sem]⟩ ?_
        clear c10_0 c10_1 c10_2 c10_3 c10_4 c10_5 c10_6 c10_7 c10_8 c10_9 c10_10 c10_11 c10_12 c10_13 c10_14 fz10_0 fz10_1 fz10_2 s10_0 s10_1 s10_2 s10_3
        rintro w20 ⟨B20, lt20_0, lt20_1, c20_0, c20_1, c20_2, c20_3, c20_4, c20_5, c20_6, c20_7, c20_8, c20_9, c20_10, c20_11, c20_12, c20_13, c20_14, fz20_0, fz20_1, fz20_2, s20_0, s20_1, s20_2, s20_3⟩
        have z20 : w5.heap.size ≤ w20.heap.size := B20.size
        have HB20 := Lib.hid B20; clear B20
        have EL := Lib.hid (max3 M_m1.out M_n1.out HL2.out)
        have EI := Lib.hid (max3 M_m2.out M_n2.out HI2.out)
        go_wp2
        go_roundw
        case rel =>
          refine ⟨k + 1, ↑q, yd, yl, yh, n1, n2, by omega, ?_, Lib.hid HY.out, EL, EI, ?_, ?_, ?_, ?_, ?_, ?_, ?_, ?_, ?_, ?_⟩
          · go_num
          · have hb_ := HB20.out; first | exact hb_ | (go_grown; done) | exact bdrewN (by go_grown) _
          · first | omega | (simp; done) | (simp; omega)
          · simp [*, go_sem]
          · simp [*, go_sem]
          · simp [*, go_sem]
          · simp [*, go_sem]
          · simp [*, go_sem]
          · simp [*, go_sem]
          · intro o; simp [*, go_sem]
          · intro o; simp [*, go_sem]
        case measure => simp [intOf]; omega
      · have he2 : (ev == 2) = false := by simpa using hev2
        go_upto_region 15 with fail
        refine genS (S := fun w' => Below (w2.heap.size) w5 w' ∧ w4.heap.size < w'.heap.size ∧ w25.heap.size < w'.heap.size ∧ w'.cell? ⟨w.heap.size, 0, none⟩ = some (.slice (some ⟨bb, oo, none⟩) ds.length c1) ∧ w'.cell? ⟨w.heap.size, 1, none⟩ = some (.slice A2 ss.length c2) ∧ w'.cell? ⟨w.heap.size + 1, 0, none⟩ = some (.int .i64 co) ∧ w'.cell? ⟨w.heap.size + 1, 1, none⟩ = some (.int .i64 si) ∧ w'.cell? ⟨w.heap.size + 1, 2, none⟩ = some (.int .i64 hy) ∧ w'.cell? ⟨w.heap.size + 1 + 1, 0, none⟩ = some (.int .i64 0) ∧ w'.cell? ⟨w.heap.size + 1 + 1, 1, none⟩ = some (.int .i64 0) ∧ w'.cell? ⟨w2.heap.size, 0, none⟩ = some (.int .i64 lo) ∧ w'.cell? ⟨w2.heap.size, 1, none⟩ = some (.int .i64 hi) ∧ w'.cell? ⟨w4.heap.size, 0, none⟩ = some (.int .i64 xk) ∧ w'.cell? ⟨w4.heap.size, 1, none⟩ = some (.bool xd) ∧ w'.cell? ⟨w4.heap.size, 2, none⟩ = some (.int .i64 xl) ∧ w'.cell? ⟨w4.heap.size, 3, none⟩ = some (.int .i64 xh) ∧ w'.cell? ⟨w25.heap.size, 0, none⟩ = some (.int .i64 (spd ds ↑q)) ∧ w'.cell? ⟨w25.heap.size, 1, none⟩ = some (.int .i64 (spd ds ↑q)) ∧ (∀ o, w'.frozen? ⟨w2.heap.size, o, none⟩ = false) ∧ (∀ o, w'.frozen? ⟨w4.heap.size, o, none⟩ = false) ∧ (∀ o, w'.frozen? ⟨w25.heap.size, o, none⟩ = false) ∧ w'.cell? ⟨bs, os + k * 4, none⟩ = some (.int .i64 ↑q) ∧ w'.cell? ⟨bs, os + k * 4 + 1, none⟩ = some (.bool yd) ∧ w'.cell? ⟨bs, os + k * 4 + 2, none⟩ = some (.int .i64 yl) ∧ w'.cell? ⟨bs, os + k * 4 + 3, none⟩ = some (.int .i64 yh)) ⟨by have hb_ := HB6.out; first | exact hb_ | (go_grown; done) | exact bdrewN (by go_grown) _, by first | omega | (simp; done) | (simp; omega), by first | omega | (simp; done) | (simp; omega), by simp [*, go_sem], by simp [*, go_sem], by simp [*, go_sem], by simp [*, go_sem], by simp [*, go_sem], by simp [*, go_sem], by simp [*, go_sem], by simp [*, go_sem], by simp [*, go_sem], by simp [*, go_sem], by simp [*, go_sem], by simp [*, go_sem], by simp [*, go_sem], by simp [*, go_sem], by simp [*, go_sem], fun o => by simp [*, go_sem], fun o => by simp [*, go_sem], fun o => by simp [*, go_sem], by simp [*, go_sem], by simp [*, go_sem], by simp [*, go_sem], by simp [*, go_sem]⟩ ?_
        clear c6_0 c6_1 c6_2 c6_3 c6_4 c6_5 c6_6 c6_7 c6_8 c6_9 c6_10 c6_11 c6_12 c6_13 c6_14 fz6_0 fz6_1 fz6_2 de6 s6_0 s6_1 s6_2 s6_3
        rintro w10 ⟨B10, lt10_0, lt10_1, c10_0, c10_1, c10_2, c10_3, c10_4, c10_5, c10_6, c10_7, c10_8, c10_9, c10_10, c10_11, c10_12, c10_13, c10_14, fz10_0, fz10_1, fz10_2, s10_0, s10_1, s10_2, s10_3⟩
        have z10 : w5.heap.size ≤ w10.heap.size := B10.size
        have HB10 := Lib.hid B10; clear B10
        obtain ⟨n1, hn1⟩ : ∃ x, max lo (spd ds ↑q) = x := ⟨_, rfl⟩
        have gn1 : (if lo < (spd ds ↑q) then (spd ds ↑q) else lo) = n1 := by rw [← hn1]; split <;> omega
        have M_n1 := Lib.hid hn1; clear hn1
        obtain ⟨n2, hn2⟩ : ∃ x, max hi (spd ds ↑q) = x := ⟨_, rfl⟩
        have gn2 : (if hi < (spd ds ↑q) then (spd ds ↑q) else hi) = n2 := by rw [← hn2]; split <;> omega
        have M_n2 := Lib.hid hn2; clear hn2
        go_upto_region 16 with fail
        clear gn1 gn2
        refine genS (S := fun w' => Below (w2.heap.size) w5 w' ∧ w4.heap.size < w'.heap.size ∧ w25.heap.size < w'.heap.size ∧ w'.cell? ⟨w.heap.size, 0, none⟩ = some (.slice (some ⟨bb, oo, none⟩) ds.length c1) ∧ w'.cell? ⟨w.heap.size, 1, none⟩ = some (.slice A2 ss.length c2) ∧ w'.cell? ⟨w.heap.size + 1, 0, none⟩ = some (.int .i64 co) ∧ w'.cell? ⟨w.heap.size + 1, 1, none⟩ = some (.int .i64 si) ∧ w'.cell? ⟨w.heap.size + 1, 2, none⟩ = some (.int .i64 hy) ∧ w'.cell? ⟨w.heap.size + 1 + 1, 0, none⟩ = some (.int .i64 0) ∧ w'.cell? ⟨w.heap.size + 1 + 1, 1, none⟩ = some (.int .i64 0) ∧ w'.cell? ⟨w2.heap.size, 0, none⟩ = some (.int .i64 n1) ∧ w'.cell? ⟨w2.heap.size, 1, none⟩ = some (.int .i64 n2) ∧ w'.cell? ⟨w4.heap.size, 0, none⟩ = some (.int .i64 xk) ∧ w'.cell? ⟨w4.heap.size, 1, none⟩ = some (.bool xd) ∧ w'.cell? ⟨w4.heap.size, 2, none⟩ = some (.int .i64 xl) ∧ w'.cell? ⟨w4.heap.size, 3, none⟩ = some (.int .i64 xh) ∧ w'.cell? ⟨w25.heap.size, 0, none⟩ = some (.int .i64 (spd ds ↑q)) ∧ w'.cell? ⟨w25.heap.size, 1, none⟩ = some (.int .i64 (spd ds ↑q)) ∧ (∀ o, w'.frozen? ⟨w2.heap.size, o, none⟩ = false) ∧ (∀ o, w'.frozen? ⟨w4.heap.size, o, none⟩ = false) ∧ (∀ o, w'.frozen? ⟨w25.heap.size, o, none⟩ = false) ∧ w'.cell? ⟨bs, os + k * 4, none⟩ = some (.int .i64 ↑q) ∧ w'.cell? ⟨bs, os + k * 4 + 1, none⟩ = some (.bool yd) ∧ w'.cell? ⟨bs, os + k * 4 + 2, none⟩ = some (.int .i64 yl) ∧ w'.cell? ⟨bs, os + k * 4 + 3, none⟩ = some (.int .i64 yh)) ⟨by have hb_ := HB10.out; first | exact hb_ | (go_grown; done) | exact bdrewN (by go_grown) _, by first | omega | (simp; done) | (simp; omega), by first | omega | (simp; done) | (simp; omega), by simp [*, go_sem], by simp [*, go_sem], by simp [*, go_sem], by simp [*, go_sem], by simp [*, go_sem], by simp [*, go_sem], by simp [*, go_sem], by simp [*, go_sem], by simp [*, go_sem], by simp [*, go_sem], by simp [*, go_sem], by simp [*, go_sem], by simp [*, go_sem], by simp [*, go_sem], by simp [*, go_sem], fun o => by simp [*, go_sem], fun o => by simp [*, go_sem], fun o => by simp [*, go_sem], by simp [*, go_sem], by simp [*, go_sem], by simp [*, go_sem], by simp [*, go_sem]⟩ ?_
        clear c10_0 c10_1 c10_2 c10_3 c10_4 c10_5 c10_6 c10_7 c10_8 c10_9 c10_10 c10_11 c10_12 c10_13 c10_14 fz10_0 fz10_1 fz10_2 s10_0 s10_1 s10_2 s10_3
        rintro w20 ⟨B20, lt20_0, lt20_1, c20_0, c20_1, c20_2, c20_3, c20_4, c20_5, c20_6, c20_7, c20_8, c20_9, c20_10, c20_11, c20_12, c20_13, c20_14, fz20_0, fz20_1, fz20_2, s20_0, s20_1, s20_2, s20_3⟩
        have z20 : w5.heap.size ≤ w20.heap.size := B20.size
        have HB20 := Lib.hid B20; clear B20
        have EL := Lib.hid (max2 M_n1.out (HL.out.trans (if_neg hev2)))
        have EI := Lib.hid (max2 M_n2.out (HI.out.trans (if_neg hev2)))
        go_wp2
        go_roundw
        case rel =>
          refine ⟨k + 1, ↑q, yd, yl, yh, n1, n2, by omega, ?_, Lib.hid HY.out, EL, EI, ?_, ?_, ?_, ?_, ?_, ?_, ?_, ?_, ?_, ?_⟩
          · go_num
          · have hb_ := HB20.out; first | exact hb_ | (go_grown; done) | exact bdrewN (by go_grown) _
          · first | omega | (simp; done) | (simp; omega)
          · simp [*, go_sem]
          · simp [*, go_sem]
          · simp [*, go_sem]
          · simp [*, go_sem]
          · simp [*, go_sem]
          · simp [*, go_sem]
          · intro o; simp [*, go_sem]
          · intro o; simp [*, go_sem]
        case measure => simp [intOf]; omega
    · obtain rfl : k = m := by omega
      clear b0 b1 b2 b3 fo fb r0 r1 r2 r3 r4
      have eN : (w2.heap.size = w.heap.size + 1 + 1) = False := eq_false (by omega)
      go_wp2
      refine bodyPost_ret (by simp [results, Try.results19, go_sem, *] <;> rfl) rfl ?_
      refine ⟨by rw [hlo.out, hhi.out], ?_⟩
      have hb_ := HW.out
      go_grown
theorem specDeepestOf_any (A1 A2 : Option Addr) (c1 c2 : Nat) (ds ss : List Int) (src co si hy n : Int) (w : World) (h : ProfAt w A1 c1 A2 c2 ds ss) :
    Calls Try.prog 19 #[profV A1 ds.length c1 A2 ss.length c2, .int .i64 src, dirV co si hy, .int .i64 n] w fun e w' =>
      e = .returned (.tuple #[ivV (deLo ds ss src co si hy n) (deHi ds ss src co si hy n), .int .i64 (trCo ds ss src co si hy n)]) ∧ Below w.heap.size w w' := by
  by_cases hc : trCo ds ss src co si hy n = 0
  · obtain ⟨r, m, rfl, hm, hr⟩ := trCo_zero hc
    obtain ⟨eL, eX⟩ := de_ok hc
    rw [eL, eX, hc]
    exact specDeepestOf_ok A1 A2 c1 c2 ds ss src co si hy m w h r hm hr
  · obtain ⟨eL, eX⟩ := de_no hc
    rw [eL, eX]
    exact specDeepestOf_no A1 A2 c1 c2 ds ss src co si hy n w h hc
end Go.Proofs.Ytopggkomkfjbfaa
