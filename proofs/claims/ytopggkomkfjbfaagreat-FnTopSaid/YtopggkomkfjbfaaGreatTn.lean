/- The range of a ray that turns in a layer, by the program and by the reference. -/
import Derived.Test.YtopggkomkfjbfaaGreatTd
namespace Go.Proofs.YtopggkomkfjbfaaGreat
set_option linter.unusedSimpArgs false
set_option linter.unusedVariables false
open Go.RowKit

/-- what a turn's numbers are -/
structure TnOk (ds ss : List Int) (src co hy n f : Int) (T R L U : Int) : Prop where
  t0 : 0 ≤ T
  t1 : T ≤ 1000000
  r0 : 0 < R
  r1 : R ≤ 1700000000
  l0 : 0 ≤ L
  l1 : L ≤ 2000000001
  u0 : 0 ≤ U
  u1 : U ≤ 2000000001
  a0 : 0 ≤ 2 * T * L
  a1 : 2 * T * L ≤ 4000000004000000
  b0 : 0 ≤ 2 * T * U
  b1 : 2 * T * U ≤ 4000000004000000
theorem tnOk {ds ss : List Int} {src co si hy n f : Int} (r : RayOk ds ss src co si hy) (n0 : 0 ≤ n) (n1 : n < ss.length) (f0 : 0 ≤ f) (f1 : f < ss.length) (hn : canB ss src co hy n = true) (hf : canB ss src co hy f = false) :
    TnOk ds ss src co hy n f ((spd ds f - spd ds n).natAbs : Int) (co * spd ss f - co * spd ss n) (sinLo ss src co hy n) (sinHi ss src co hy n) := by
  have tk := tdOk r n0 n1 f0 f1 hn hf
  obtain ⟨g0, g1⟩ := sqI_range r n0 n1 hn
  obtain ⟨s0, s1, s2⟩ := rt_spec (n := sqI ss src co hy n) (by omega)
  have s3 := rt_le (n := sqI ss src co hy n) (by omega) (by omega)
  obtain ⟨s4, s5, s6⟩ := rtUp_spec (n := sqI ss src co hy n) (by omega)
  have l0 : 0 ≤ sinLo ss src co hy n := s0
  have l1 : sinLo ss src co hy n ≤ 2000000001 := by unfold sinLo; omega
  have u0 : 0 ≤ sinHi ss src co hy n := by unfold sinHi; omega
  have u1 : sinHi ss src co hy n ≤ 2000000001 := by unfold sinHi; omega
  have t0 := tk.t0; have t1 := tk.t1
  obtain ⟨m1, m2⟩ := mul_bd (a := 2 * ((spd ds f - spd ds n).natAbs : Int)) (b := sinLo ss src co hy n) (A := 2000000) (B := 2000000001) (by omega) (by omega) l0 l1
  obtain ⟨m3, m4⟩ := mul_bd (a := 2 * ((spd ds f - spd ds n).natAbs : Int)) (b := sinHi ss src co hy n) (A := 2000000) (B := 2000000001) (by omega) (by omega) u0 u1
  have p1 := Int.mul_nonneg (show 0 ≤ 2 * ((spd ds f - spd ds n).natAbs : Int) by omega) l0
  have p2 := Int.mul_nonneg (show 0 ≤ 2 * ((spd ds f - spd ds n).natAbs : Int) by omega) u0
  exact ⟨t0, t1, tk.r0, tk.r1, l0, l1, u0, u1, p1, by omega, p2, by omega⟩
def tnLo (ds ss : List Int) (src co hy n f : Int) : Int := 2 * ((spd ds f - spd ds n).natAbs : Int) * sinLo ss src co hy n / (co * spd ss f - co * spd ss n)
def tnHi (ds ss : List Int) (src co hy n f : Int) : Int := -(-(2 * ((spd ds f - spd ds n).natAbs : Int) * sinHi ss src co hy n) / (co * spd ss f - co * spd ss n))

theorem sine_eq (A1 A2 : Option Addr) (n1 c1 c2 : Nat) (ds ss : List Int) (src co si hy k L U : Int) (w : World) (h : IntsAt w A2 c2 ss) (r : RayOk ds ss src co si hy) (k0 : 0 ≤ k) (k1 : k < ss.length) (hc : canB ss src co hy k = true) (hL : sinLo ss src co hy k = L) (hU : sinHi ss src co hy k = U) :
    Calls Tryz.prog 95 #[rayV A1 n1 c1 A2 ss.length c2 src co si hy, .int .i64 k] w fun e w' => e = .returned (ivV L U) ∧ Below w.heap.size w w' := by
  subst hL hU; exact sine_any A1 A2 n1 c1 c2 ds ss src co si hy k w h r k0 k1 hc
set_option maxHeartbeats 2000000 in
theorem turned_any (A1 A2 : Option Addr) (c1 c2 : Nat) (ds ss : List Int) (src co si hy n f : Int) (w : World) (h : ProfAt w A1 c1 A2 c2 ds ss) (r : RayOk ds ss src co si hy) (n0 : 0 ≤ n) (n1' : n < ss.length) (f0 : 0 ≤ f) (f1 : f < ss.length) (hcn : canB ss src co hy n = true) (hcf : canB ss src co hy f = false) :
    Calls Tryz.prog 88 #[arcV A1 ds.length c1 A2 ss.length c2 src co si hy n f] w fun e w' => e = .returned (ivV (tnLo ds ss src co hy n f) (tnHi ds ss src co hy n f)) ∧ Below w.heap.size w w' := by
  have tk := tnOk r n0 n1' f0 f1 hcn hcf
  have e1 : tnLo ds ss src co hy n f = 2 * ((spd ds f - spd ds n).natAbs : Int) * sinLo ss src co hy n / (co * spd ss f - co * spd ss n) := rfl
  have e2 : tnHi ds ss src co hy n f = -(-(2 * ((spd ds f - spd ds n).natAbs : Int) * sinHi ss src co hy n) / (co * spd ss f - co * spd ss n)) := rfl
  have hdn := r.dp n n0 n1'; have hdf := r.dp f f0 f1
  have ll := r.l1; have lc := r.l2; have ld := r.l3
  generalize hT : ((spd ds f - spd ds n).natAbs : Int) = T at *
  generalize hR : co * spd ss f - co * spd ss n = R at *
  generalize hL : sinLo ss src co hy n = L at *
  generalize hU : sinHi ss src co hy n = U at *
  obtain ⟨tt0, tt1, r0', r1', ll0, ll1, uu0, uu1, a0, a1, bb0, bb1⟩ := tk
  have H := Lib.hid h; have RR := Lib.hid r; have E1 := Lib.hid e1; have E2 := Lib.hid e2; have HT := Lib.hid hT; have HR := Lib.hid hR; have HL := Lib.hid hL; have HU := Lib.hid hU; have HC := Lib.hid hcn
  clear h r e1 e2 hT hR hL hU hcn hcf
  go_enter Tryz.func88, Tryz.ntmps88
  go_wp2_with (go_at_call 95; refine (sine_eq _ _ _ _ _ ds _ _ _ _ _ _ L U _ (H.out.2.below (B := w.heap.size) (by first | exact Below.refl _ _ | (go_grown; done) | exact bdrewN (by go_grown) _) (Nat.le_refl _)) RR.out n0 n1' HC.out HL.out HU.out).mono ?_; rintro e w1 ⟨rfl, hb1⟩; obtain ⟨B1, hz1, q1, s1, t1, x1, y1, z1⟩ := bkeep (w := w) [w.heap.size, w.heap.size + 1] (by first | (simp; done) | (simp; omega)) (by first | (go_grown; done) | exact bdrewN (by go_grown) _) hb1; (try simp at hz1); clear hb1)
  refine genS (S := fun w' => Below w.heap.size w w' ∧ w.heap.size + 1 < w'.heap.size ∧ w1.heap.size < w'.heap.size ∧ (∀ o, w'.frozen? ⟨w.heap.size + 1, o, none⟩ = false) ∧ w'.cell? ⟨w.heap.size, 0, none⟩ = some (.slice A1 ds.length c1) ∧ w'.cell? ⟨w.heap.size, 1, none⟩ = some (.slice A2 ss.length c2) ∧ w'.cell? ⟨w.heap.size, 2, none⟩ = some (.int .i64 src) ∧ w'.cell? ⟨w.heap.size, 3, none⟩ = some (.int .i64 co) ∧ w'.cell? ⟨w.heap.size, 4, none⟩ = some (.int .i64 si) ∧ w'.cell? ⟨w.heap.size, 5, none⟩ = some (.int .i64 hy) ∧ w'.cell? ⟨w.heap.size, 6, none⟩ = some (.int .i64 n) ∧ w'.cell? ⟨w.heap.size, 7, none⟩ = some (.int .i64 f) ∧ w'.cell? ⟨w1.heap.size, 0, none⟩ = some (.int .i64 L) ∧ w'.cell? ⟨w1.heap.size, 1, none⟩ = some (.int .i64 U) ∧ w'.cell? ⟨w.heap.size + 1, 0, none⟩ = some (.int .i64 0) ∧ w'.cell? ⟨w.heap.size + 1, 1, none⟩ = some (.int .i64 0)) ⟨(by first | with_reducible exact B1 | (go_grown; done) | with_reducible exact bdrewN B1 _ | (go_grown <;> first | with_reducible exact bdrewN B1 _ | with_reducible exact B1)), by first | omega | (simp; done) | (simp; omega) | (have := x1 _ (by first | assumption | simp); omega) | (have hx_ := x1 (w.heap.size + 1) (by simp); simp; omega), by first | omega | (simp; done) | (simp; omega) | (have := x1 _ (by first | assumption | simp); omega) | (have hx_ := x1 (w1.heap.size) (by simp); simp; omega), fun o => by simp [*, go_sem], by simp [*, go_sem], by simp [*, go_sem], by simp [*, go_sem], by simp [*, go_sem], by simp [*, go_sem], by simp [*, go_sem], by simp [*, go_sem], by simp [*, go_sem], by simp [*, go_sem], by simp [*, go_sem], by simp [*, go_sem], by simp [*, go_sem]⟩ ?_
  rintro w3 ⟨B3, lt3_0, lt3_1, fz3, r3_0, r3_1, r3_2, r3_3, r3_4, r3_5, r3_6, r3_7, r3_8, r3_9, r3_10, r3_11⟩
  clear q1 s1 t1 x1 y1
  have zz1 : w.heap.size + 1 ≠ w1.heap.size := by omega
  have zz2 : w1.heap.size ≠ w.heap.size + 1 := by omega
  have z3 : w.heap.size ≤ w3.heap.size := B3.size
  have W1 : IntKind.i64.wrap (2 * T) = 2 * T := IntWalk.i64_in _ (by omega)
  have W2 : IntKind.i64.wrap (2 * T * L) = 2 * T * L := IntWalk.i64_in _ (by omega)
  have W3 : IntKind.i64.wrap (2 * T * U) = 2 * T * U := IntWalk.i64_in _ (by omega)
  go_region_held3 (fun w' => w'.cell? ⟨w.heap.size, 0, none⟩ = some (.slice A1 ds.length c1) ∧ w'.cell? ⟨w.heap.size, 1, none⟩ = some (.slice A2 ss.length c2) ∧ w'.cell? ⟨w.heap.size, 2, none⟩ = some (.int .i64 src) ∧ w'.cell? ⟨w.heap.size, 3, none⟩ = some (.int .i64 co) ∧ w'.cell? ⟨w.heap.size, 4, none⟩ = some (.int .i64 si) ∧ w'.cell? ⟨w.heap.size, 5, none⟩ = some (.int .i64 hy) ∧ w'.cell? ⟨w.heap.size, 6, none⟩ = some (.int .i64 n) ∧ w'.cell? ⟨w.heap.size, 7, none⟩ = some (.int .i64 f) ∧ w'.cell? ⟨w1.heap.size, 0, none⟩ = some (.int .i64 L) ∧ w'.cell? ⟨w1.heap.size, 1, none⟩ = some (.int .i64 U)) (first | (go_keep; done) | (simp [*, go_sem]; done))
    (first
      | (have hq_ := B4; (go_at_call 93; refine (thick_any _ _ _ _ _ _ _ _ _ _ _ _ T _ (H.out.1.below (B := w.heap.size) (by first | exact Below.refl _ _ | (go_grown; done) | exact bdrewN (by go_grown) _) (Nat.le_refl _)) n0 (by omega) f0 (by omega) ll hdn hdf HT.out).mono ?_; rintro e w6 ⟨rfl, hb6⟩; obtain ⟨B6, hz6, q6, s6, t6, x6, y6, z6⟩ := bkeep (w := w) [w.heap.size, w.heap.size + 1, w1.heap.size] (by first | (simp; done) | (simp; omega)) (by first | (go_grown; done) | exact bdrewN (by go_grown) _) hb6; (try simp at hz6); clear hb6))
      | (go_at_call 93; refine (thick_any _ _ _ _ _ _ _ _ _ _ _ _ T _ (H.out.1.below (B := w.heap.size) (by first | exact Below.refl _ _ | (go_grown; done) | exact bdrewN (by go_grown) _) (Nat.le_refl _)) n0 (by omega) f0 (by omega) ll hdn hdf HT.out).mono ?_; rintro e w4 ⟨rfl, hb4⟩; obtain ⟨B4, hz4, q4, s4, t4, x4, y4, z4⟩ := bkeep (w := w) [w.heap.size, w.heap.size + 1, w1.heap.size] (by first | (simp; done) | (simp; omega)) (by first | (go_grown; done) | exact bdrewN (by go_grown) _) hb4; (try simp at hz4); clear hb4)
      | (have hq_ := B5; (go_at_call 98; refine (rise_any _ _ _ _ _ ds _ _ _ _ _ _ _ R _ (H.out.2.below (B := w.heap.size) (by first | exact Below.refl _ _ | (go_grown; done) | exact bdrewN (by go_grown) _) (Nat.le_refl _)) RR.out n0 n1' f0 f1 HR.out).mono ?_; rintro e w7 ⟨rfl, hb7⟩; obtain ⟨B7, hz7, q7, s7, t7, x7, y7, z7⟩ := bkeep (w := w) [w.heap.size, w.heap.size + 1, w1.heap.size] (by first | (simp; done) | (simp; omega)) (by first | (go_grown; done) | exact bdrewN (by go_grown) _) hb7; (try simp at hz7); clear hb7))
      | (go_at_call 98; refine (rise_any _ _ _ _ _ ds _ _ _ _ _ _ _ R _ (H.out.2.below (B := w.heap.size) (by first | exact Below.refl _ _ | (go_grown; done) | exact bdrewN (by go_grown) _) (Nat.le_refl _)) RR.out n0 n1' f0 f1 HR.out).mono ?_; rintro e w5 ⟨rfl, hb5⟩; obtain ⟨B5, hz5, q5, s5, t5, x5, y5, z5⟩ := bkeep (w := w) [w.heap.size, w.heap.size + 1, w1.heap.size] (by first | (simp; done) | (simp; omega)) (by first | (go_grown; done) | exact bdrewN (by go_grown) _) hb5; (try simp at hz5); clear hb5)
      | (go_at_call 96; refine (implFloor_any _ _ _ r0' (by omega) (by omega) (by omega)).mono ?_; rintro e w' ⟨rfl, rfl⟩)
      | (go_at_call 97; refine (implCeil_any _ _ _ r0' (by omega) (by omega) (by omega)).mono ?_; rintro e w' ⟨rfl, rfl⟩))
  clear W1 W2 W3
  go_wp2
  refine bodyPost_ret (by simp [results, Tryz.results88, go_sem, *] <;> rfl) rfl ?_
  exact ⟨by rw [E1.out, E2.out], (by first | with_reducible exact B7 | (go_grown; done) | with_reducible exact bdrewN B7 _ | (go_grown <;> first | with_reducible exact bdrewN B7 _ | with_reducible exact B7))⟩
set_option maxHeartbeats 4000000 in
theorem l06Turn_true (A1 A2 : Option Addr) (c1 c2 : Nat) (ds ss : List Int) (src co si hy l : Int) (w : World) (h : ProfAt w A1 c1 A2 c2 ds ss) (r : RayOk ds ss src co si hy) (l0 : 0 ≤ l) (l1 : l + 1 < ss.length) (hcn : canB ss src co hy (nearK l true) = true) (hcf : canB ss src co hy (farK l true) = false) :
    Calls Tryz.prog 92 #[profV A1 ds.length c1 A2 ss.length c2, .int .i64 src, dirV co si hy, .int .i64 l, .bool true] w fun e w' => e = .returned (.tuple #[ivV (limLo (tnLo ds ss src co hy (nearK l true) (farK l true)) (tnHi ds ss src co hy (nearK l true) (farK l true))) (limHi (tnLo ds ss src co hy (nearK l true) (farK l true)) (tnHi ds ss src co hy (nearK l true) (farK l true))), .int .i64 (limC (tnLo ds ss src co hy (nearK l true) (farK l true)) (tnHi ds ss src co hy (nearK l true) (farK l true)) 3)]) ∧ Below w.heap.size w w' := by
  obtain ⟨n0, n1⟩ := near_bd true l0 l1
  obtain ⟨f0, f1⟩ := far_bd true l0 l1
  have tk := tnOk r n0 n1 f0 f1 hcn hcf
  have ll := r.l1; have lc := r.l2; have ld := r.l3
  have hEnds : ∀ w, Calls Tryz.prog 83 #[.int .i64 l, .bool true] w fun e w' => e = .returned (.tuple #[.int .i64 (nearK l true), .int .i64 (farK l true)]) ∧ w = w' := fun w => l06Ends_any l true w l0 (by omega)
  have hSine : ∀ w, ProfAt w A1 c1 A2 c2 ds ss → Calls Tryz.prog 101 #[profV A1 ds.length c1 A2 ss.length c2, .int .i64 src, dirV co si hy, .int .i64 (nearK l true)] w fun e w' => e = .returned (ivV (sinLo ss src co hy (nearK l true)) (sinHi ss src co hy (nearK l true))) ∧ Below w.heap.size w w' := fun w hh => l05Sine_any A1 A2 c1 c2 ds ss src co si hy (nearK l true) w hh r n0 n1 hcn
  have u0 := r.up l l0 l1
  have dn0 := r.dp l l0 (by omega); have dn1 := r.dp (l + 1) (by omega) l1
  have ssl := r.sp l l0 (by omega); have ssl1 := r.sp (l + 1) (by omega) l1
  have cc0 := r.c0; have cc1 := r.c1; have ch := r.h1
  obtain ⟨m, rfl⟩ := Int.eq_ofNat_of_zero_le l0
  have hnk : nearK (m : Int) true = (m : Int) := rfl
  have hfk : farK (m : Int) true = ((m : Int) + 1) := rfl
  simp only [hnk, hfk] at hEnds hSine tk ⊢
  have eT : ((spd ds ((m : Int) + 1) - spd ds (m : Int)).natAbs : Int) = spd ds ((m : Int) + 1) - spd ds m := by omega
  have eR : co * spd ss ((m : Int) + 1) - co * spd ss (m : Int) = co * (spd ss ((m : Int) + 1) - spd ss (m : Int)) := by rw [Int.mul_sub]
  have e1 : tnLo ds ss src co hy (m : Int) ((m : Int) + 1) = 2 * (spd ds ((m : Int) + 1) - spd ds m) * sinLo ss src co hy (m : Int) / (co * (spd ss ((m : Int) + 1) - spd ss (m : Int))) := by unfold tnLo; rw [eT, eR]
  have e2 : tnHi ds ss src co hy (m : Int) ((m : Int) + 1) = -(-(2 * (spd ds ((m : Int) + 1) - spd ds m) * sinHi ss src co hy (m : Int)) / (co * (spd ss ((m : Int) + 1) - spd ss (m : Int)))) := by unfold tnHi; rw [eT, eR]
  rw [eT, eR] at tk
  obtain ⟨bb1, o1, rfl, hb1, q1⟩ := h.1.spd (by omega)
  obtain ⟨bb2, o2, rfl, hb2, q2⟩ := h.2.spd (by omega)
  have x0 := q1 m (by omega); have x1' := q1 (m + 1) (by omega)
  have y0 := q2 m (by omega); have y1' := q2 (m + 1) (by omega)
  rw [show ((m + 1 : Nat) : Int) = (m : Int) + 1 by omega] at x1' y1'
  have k0 : (0 : Int) ≤ m := by omega
  have k2 : (m : Int) < ds.length := by omega
  have k3 : (m : Int) < ss.length := by omega
  have k4 : (0 : Int) ≤ (m : Int) + 1 := by omega
  have k5 : (m : Int) + 1 < ds.length := by omega
  have k6 : (m : Int) + 1 < ss.length := by omega
  have k7 : ((m : Int) + 1).toNat = m + 1 := by omega
  clear q1 q2 hnk hfk eT eR n0 n1 f0 f1 hcn hcf
  generalize hLL : sinLo ss src co hy (m : Int) = L at *
  generalize hUU : sinHi ss src co hy (m : Int) = U at *
  generalize hT : spd ds ((m : Int) + 1) - spd ds m = T at *
  generalize hR : co * (spd ss ((m : Int) + 1) - spd ss (m : Int)) = R at *
  generalize hLo : tnLo ds ss src co hy (m : Int) ((m : Int) + 1) = lo at *
  generalize hHi : tnHi ds ss src co hy (m : Int) ((m : Int) + 1) = hi at *
  obtain ⟨tt0, tt1, r0', r1', ll0, ll1, uu0, uu1, a0, a1, b0, b1⟩ := tk
  have H := Lib.hid h; have E1 := Lib.hid e1; have E2 := Lib.hid e2; have HR := Lib.hid hR; have HT := Lib.hid hT; have HS := Lib.hid hSine; have HE := Lib.hid hEnds
  clear h r e1 e2 hR hT hSine hEnds hLo hHi hLL hUU
  go_enter Tryz.func92, Tryz.ntmps92
  go_wp2_with (first
    | (go_at_call 83; refine (HE.out _).mono ?_; rintro e w' ⟨rfl, rfl⟩)
    | (go_at_call 101; refine (HS.out _ ⟨(H.out.1.below (B := w.heap.size) (by first | exact Below.refl _ _ | (go_grown; done) | exact bdrewN (by go_grown) _) (Nat.le_refl _)), (H.out.2.below (B := w.heap.size) (by first | exact Below.refl _ _ | (go_grown; done) | exact bdrewN (by go_grown) _) (Nat.le_refl _))⟩).mono ?_; rintro e w2 ⟨rfl, hb2⟩; obtain ⟨B2, hz2, q2, s2, t2, x2, y2, z2⟩ := bkeep (w := w) [w.heap.size, w.heap.size + 1, w.heap.size + 2] (by first | (simp; done) | (simp; omega)) (by first | (go_grown; done) | exact bdrewN (by go_grown) _) hb2; (try simp at hz2); clear hb2))
  refine genS (S := fun w' => Below w.heap.size w w' ∧ w.heap.size + 1 + 1 < w'.heap.size ∧ w2.heap.size < w'.heap.size ∧ (∀ o, w'.frozen? ⟨w.heap.size + 1 + 1, o, none⟩ = false) ∧ w'.cell? ⟨w.heap.size, 0, none⟩ = some (.slice (some ⟨bb1, o1, none⟩) ds.length c1) ∧ w'.cell? ⟨w.heap.size, 1, none⟩ = some (.slice (some ⟨bb2, o2, none⟩) ss.length c2) ∧ w'.cell? ⟨w.heap.size + 1, 0, none⟩ = some (.int .i64 co) ∧ w'.cell? ⟨w2.heap.size, 0, none⟩ = some (.int .i64 L) ∧ w'.cell? ⟨w2.heap.size, 1, none⟩ = some (.int .i64 U) ∧ w'.cell? ⟨w.heap.size + 1 + 1, 0, none⟩ = some (.int .i64 0) ∧ w'.cell? ⟨w.heap.size + 1 + 1, 1, none⟩ = some (.int .i64 0)) ⟨(by first | with_reducible exact B2 | (go_grown; done) | with_reducible exact bdrewN B2 _ | (go_grown <;> first | with_reducible exact bdrewN B2 _ | with_reducible exact B2)), by first | omega | (simp; done) | (simp; omega) | (have := x2 _ (by first | assumption | simp); omega) | (have hx_ := x2 (w.heap.size + 1 + 1) (by simp); simp; omega), by first | omega | (simp; done) | (simp; omega) | (have := x2 _ (by first | assumption | simp); omega) | (have hx_ := x2 (w2.heap.size) (by simp); simp; omega), fun o => by simp [*, go_sem], by simp [*, go_sem], by simp [*, go_sem], by simp [*, go_sem], by simp [*, go_sem], by simp [*, go_sem], by simp [*, go_sem], by simp [*, go_sem]⟩ ?_
  rintro w3 ⟨B3, lt3_0, lt3_1, fz3, r3_0, r3_1, r3_2, r3_3, r3_4, r3_5, r3_6⟩
  clear q2 s2 t2 x2 y2
  have xx0 := (B3.cell (p := ⟨bb1, o1 + m, none⟩) hb1).trans x0
  have xx1 := (B3.cell (p := ⟨bb1, o1 + (m + 1), none⟩) hb1).trans x1'
  have yy0 := (B3.cell (p := ⟨bb2, o2 + m, none⟩) hb2).trans y0
  have yy1 := (B3.cell (p := ⟨bb2, o2 + (m + 1), none⟩) hb2).trans y1'
  have zz1 : w.heap.size + 1 + 1 ≠ w2.heap.size := by omega
  have zz2 : w2.heap.size ≠ w.heap.size + 1 + 1 := by omega
  have W0 : IntKind.i64.wrap ((m : Int) + 1) = (m : Int) + 1 := IntWalk.i64_in _ (by omega)
  have W2 : IntKind.i64.wrap (spd ds ((m : Int) + 1) - spd ds m) = T := by rw [HT.out]; exact IntWalk.i64_in _ (by omega)
  have W3 : IntKind.i64.wrap (2 * T) = 2 * T := IntWalk.i64_in _ (by omega)
  go_quiet (fail)
  clear W0 W2 W3
  go_wp2_with fail
  have W1 : IntKind.i64.wrap (spd ss ((m : Int) + 1) - spd ss (m : Int)) = spd ss ((m : Int) + 1) - spd ss (m : Int) := IntWalk.i64_in _ (by omega)
  have W2 : IntKind.i64.wrap (co * (spd ss ((m : Int) + 1) - spd ss (m : Int))) = R := by rw [HR.out]; exact IntWalk.i64_in _ (by omega)
  go_quiet (fail)
  clear W1 W2
  go_wp2_with fail
  have W1 : IntKind.i64.wrap (2 * T * L) = 2 * T * L := IntWalk.i64_in _ (by omega)
  have W2 : IntKind.i64.wrap (2 * T * U) = 2 * T * U := IntWalk.i64_in _ (by omega)
  go_region_held3 (fun w' => w'.cell? ⟨w2.heap.size, 0, none⟩ = some (.int .i64 L) ∧ w'.cell? ⟨w2.heap.size, 1, none⟩ = some (.int .i64 U)) (first | (go_keep; done) | (simp [*, go_sem]; done))
    (first
      | (go_at_call 102; refine (specFloor_any _ _ _ r0' (by omega) (by omega) (by omega)).mono ?_; rintro e w' ⟨rfl, rfl⟩)
      | (go_at_call 103; refine (specCeil_any _ _ _ r0' (by omega) (by omega) (by omega)).mono ?_; rintro e w' ⟨rfl, rfl⟩)
      | (go_at_call 73; refine (l06Limit_any _ _ _).mono ?_; rintro e w4 ⟨rfl, hb4⟩; obtain ⟨B4, hz4, q4, s4, t4, x4, y4, z4⟩ := bkeep (w := w) [w.heap.size, w.heap.size + 1, w.heap.size + 2, w2.heap.size] (by first | (simp; done) | (simp; omega)) (by first | (go_grown; done) | exact bdrewN (by go_grown) _) hb4; (try simp at hz4); clear hb4))
  clear W1 W2
  go_wp2
  refine bodyPost_ret (by simp [results, Tryz.results92, go_sem, *] <;> rfl) rfl ?_
  exact ⟨by rw [E1.out, E2.out], (by first | with_reducible exact B4 | (go_grown; done) | with_reducible exact bdrewN B4 _ | (go_grown <;> first | with_reducible exact bdrewN B4 _ | with_reducible exact B4))⟩
set_option maxHeartbeats 4000000 in
theorem l06Turn_false (A1 A2 : Option Addr) (c1 c2 : Nat) (ds ss : List Int) (src co si hy l : Int) (w : World) (h : ProfAt w A1 c1 A2 c2 ds ss) (r : RayOk ds ss src co si hy) (l0 : 0 ≤ l) (l1 : l + 1 < ss.length) (hcn : canB ss src co hy (nearK l false) = true) (hcf : canB ss src co hy (farK l false) = false) :
    Calls Tryz.prog 92 #[profV A1 ds.length c1 A2 ss.length c2, .int .i64 src, dirV co si hy, .int .i64 l, .bool false] w fun e w' => e = .returned (.tuple #[ivV (limLo (tnLo ds ss src co hy (nearK l false) (farK l false)) (tnHi ds ss src co hy (nearK l false) (farK l false))) (limHi (tnLo ds ss src co hy (nearK l false) (farK l false)) (tnHi ds ss src co hy (nearK l false) (farK l false))), .int .i64 (limC (tnLo ds ss src co hy (nearK l false) (farK l false)) (tnHi ds ss src co hy (nearK l false) (farK l false)) 3)]) ∧ Below w.heap.size w w' := by
  obtain ⟨n0, n1⟩ := near_bd false l0 l1
  obtain ⟨f0, f1⟩ := far_bd false l0 l1
  have tk := tnOk r n0 n1 f0 f1 hcn hcf
  have ll := r.l1; have lc := r.l2; have ld := r.l3
  have hEnds : ∀ w, Calls Tryz.prog 83 #[.int .i64 l, .bool false] w fun e w' => e = .returned (.tuple #[.int .i64 (nearK l false), .int .i64 (farK l false)]) ∧ w = w' := fun w => l06Ends_any l false w l0 (by omega)
  have hSine : ∀ w, ProfAt w A1 c1 A2 c2 ds ss → Calls Tryz.prog 101 #[profV A1 ds.length c1 A2 ss.length c2, .int .i64 src, dirV co si hy, .int .i64 (nearK l false)] w fun e w' => e = .returned (ivV (sinLo ss src co hy (nearK l false)) (sinHi ss src co hy (nearK l false))) ∧ Below w.heap.size w w' := fun w hh => l05Sine_any A1 A2 c1 c2 ds ss src co si hy (nearK l false) w hh r n0 n1 hcn
  have u0 := r.up l l0 l1
  have dn0 := r.dp l l0 (by omega); have dn1 := r.dp (l + 1) (by omega) l1
  have ssl := r.sp l l0 (by omega); have ssl1 := r.sp (l + 1) (by omega) l1
  have cc0 := r.c0; have cc1 := r.c1; have ch := r.h1
  obtain ⟨m, rfl⟩ := Int.eq_ofNat_of_zero_le l0
  have hnk : nearK (m : Int) false = ((m : Int) + 1) := rfl
  have hfk : farK (m : Int) false = (m : Int) := rfl
  simp only [hnk, hfk] at hEnds hSine tk ⊢
  have eT : ((spd ds (m : Int) - spd ds ((m : Int) + 1)).natAbs : Int) = spd ds ((m : Int) + 1) - spd ds m := by omega
  have eR : co * spd ss (m : Int) - co * spd ss ((m : Int) + 1) = co * (spd ss (m : Int) - spd ss ((m : Int) + 1)) := by rw [Int.mul_sub]
  have e1 : tnLo ds ss src co hy ((m : Int) + 1) (m : Int) = 2 * (spd ds ((m : Int) + 1) - spd ds m) * sinLo ss src co hy ((m : Int) + 1) / (co * (spd ss (m : Int) - spd ss ((m : Int) + 1))) := by unfold tnLo; rw [eT, eR]
  have e2 : tnHi ds ss src co hy ((m : Int) + 1) (m : Int) = -(-(2 * (spd ds ((m : Int) + 1) - spd ds m) * sinHi ss src co hy ((m : Int) + 1)) / (co * (spd ss (m : Int) - spd ss ((m : Int) + 1)))) := by unfold tnHi; rw [eT, eR]
  rw [eT, eR] at tk
  obtain ⟨bb1, o1, rfl, hb1, q1⟩ := h.1.spd (by omega)
  obtain ⟨bb2, o2, rfl, hb2, q2⟩ := h.2.spd (by omega)
  have x0 := q1 m (by omega); have x1' := q1 (m + 1) (by omega)
  have y0 := q2 m (by omega); have y1' := q2 (m + 1) (by omega)
  rw [show ((m + 1 : Nat) : Int) = (m : Int) + 1 by omega] at x1' y1'
  have k0 : (0 : Int) ≤ m := by omega
  have k2 : (m : Int) < ds.length := by omega
  have k3 : (m : Int) < ss.length := by omega
  have k4 : (0 : Int) ≤ (m : Int) + 1 := by omega
  have k5 : (m : Int) + 1 < ds.length := by omega
  have k6 : (m : Int) + 1 < ss.length := by omega
  have k7 : ((m : Int) + 1).toNat = m + 1 := by omega
  clear q1 q2 hnk hfk eT eR n0 n1 f0 f1 hcn hcf
  generalize hLL : sinLo ss src co hy ((m : Int) + 1) = L at *
  generalize hUU : sinHi ss src co hy ((m : Int) + 1) = U at *
  generalize hT : spd ds ((m : Int) + 1) - spd ds m = T at *
  generalize hR : co * (spd ss (m : Int) - spd ss ((m : Int) + 1)) = R at *
  generalize hLo : tnLo ds ss src co hy ((m : Int) + 1) (m : Int) = lo at *
  generalize hHi : tnHi ds ss src co hy ((m : Int) + 1) (m : Int) = hi at *
  obtain ⟨tt0, tt1, r0', r1', ll0, ll1, uu0, uu1, a0, a1, b0, b1⟩ := tk
  have H := Lib.hid h; have E1 := Lib.hid e1; have E2 := Lib.hid e2; have HR := Lib.hid hR; have HT := Lib.hid hT; have HS := Lib.hid hSine; have HE := Lib.hid hEnds
  clear h r e1 e2 hR hT hSine hEnds hLo hHi hLL hUU
  go_enter Tryz.func92, Tryz.ntmps92
  go_wp2_with (first
    | (go_at_call 83; refine (HE.out _).mono ?_; rintro e w' ⟨rfl, rfl⟩)
    | (go_at_call 101; refine (HS.out _ ⟨(H.out.1.below (B := w.heap.size) (by first | exact Below.refl _ _ | (go_grown; done) | exact bdrewN (by go_grown) _) (Nat.le_refl _)), (H.out.2.below (B := w.heap.size) (by first | exact Below.refl _ _ | (go_grown; done) | exact bdrewN (by go_grown) _) (Nat.le_refl _))⟩).mono ?_; rintro e w2 ⟨rfl, hb2⟩; obtain ⟨B2, hz2, q2, s2, t2, x2, y2, z2⟩ := bkeep (w := w) [w.heap.size, w.heap.size + 1, w.heap.size + 2] (by first | (simp; done) | (simp; omega)) (by first | (go_grown; done) | exact bdrewN (by go_grown) _) hb2; (try simp at hz2); clear hb2))
  refine genS (S := fun w' => Below w.heap.size w w' ∧ w.heap.size + 1 + 1 < w'.heap.size ∧ w2.heap.size < w'.heap.size ∧ (∀ o, w'.frozen? ⟨w.heap.size + 1 + 1, o, none⟩ = false) ∧ w'.cell? ⟨w.heap.size, 0, none⟩ = some (.slice (some ⟨bb1, o1, none⟩) ds.length c1) ∧ w'.cell? ⟨w.heap.size, 1, none⟩ = some (.slice (some ⟨bb2, o2, none⟩) ss.length c2) ∧ w'.cell? ⟨w.heap.size + 1, 0, none⟩ = some (.int .i64 co) ∧ w'.cell? ⟨w2.heap.size, 0, none⟩ = some (.int .i64 L) ∧ w'.cell? ⟨w2.heap.size, 1, none⟩ = some (.int .i64 U) ∧ w'.cell? ⟨w.heap.size + 1 + 1, 0, none⟩ = some (.int .i64 0) ∧ w'.cell? ⟨w.heap.size + 1 + 1, 1, none⟩ = some (.int .i64 0)) ⟨(by first | with_reducible exact B2 | (go_grown; done) | with_reducible exact bdrewN B2 _ | (go_grown <;> first | with_reducible exact bdrewN B2 _ | with_reducible exact B2)), by first | omega | (simp; done) | (simp; omega) | (have := x2 _ (by first | assumption | simp); omega) | (have hx_ := x2 (w.heap.size + 1 + 1) (by simp); simp; omega), by first | omega | (simp; done) | (simp; omega) | (have := x2 _ (by first | assumption | simp); omega) | (have hx_ := x2 (w2.heap.size) (by simp); simp; omega), fun o => by simp [*, go_sem], by simp [*, go_sem], by simp [*, go_sem], by simp [*, go_sem], by simp [*, go_sem], by simp [*, go_sem], by simp [*, go_sem], by simp [*, go_sem]⟩ ?_
  rintro w3 ⟨B3, lt3_0, lt3_1, fz3, r3_0, r3_1, r3_2, r3_3, r3_4, r3_5, r3_6⟩
  clear q2 s2 t2 x2 y2
  have xx0 := (B3.cell (p := ⟨bb1, o1 + m, none⟩) hb1).trans x0
  have xx1 := (B3.cell (p := ⟨bb1, o1 + (m + 1), none⟩) hb1).trans x1'
  have yy0 := (B3.cell (p := ⟨bb2, o2 + m, none⟩) hb2).trans y0
  have yy1 := (B3.cell (p := ⟨bb2, o2 + (m + 1), none⟩) hb2).trans y1'
  have zz1 : w.heap.size + 1 + 1 ≠ w2.heap.size := by omega
  have zz2 : w2.heap.size ≠ w.heap.size + 1 + 1 := by omega
  have W0 : IntKind.i64.wrap ((m : Int) + 1) = (m : Int) + 1 := IntWalk.i64_in _ (by omega)
  have W2 : IntKind.i64.wrap (spd ds ((m : Int) + 1) - spd ds m) = T := by rw [HT.out]; exact IntWalk.i64_in _ (by omega)
  have W3 : IntKind.i64.wrap (2 * T) = 2 * T := IntWalk.i64_in _ (by omega)
  go_quiet (fail)
  clear W0 W2 W3
  go_wp2_with fail
  have W1 : IntKind.i64.wrap (spd ss (m : Int) - spd ss ((m : Int) + 1)) = spd ss (m : Int) - spd ss ((m : Int) + 1) := IntWalk.i64_in _ (by omega)
  have W2 : IntKind.i64.wrap (co * (spd ss (m : Int) - spd ss ((m : Int) + 1))) = R := by rw [HR.out]; exact IntWalk.i64_in _ (by omega)
  go_quiet (fail)
  clear W1 W2
  go_wp2_with fail
  have W1 : IntKind.i64.wrap (2 * T * L) = 2 * T * L := IntWalk.i64_in _ (by omega)
  have W2 : IntKind.i64.wrap (2 * T * U) = 2 * T * U := IntWalk.i64_in _ (by omega)
  go_region_held3 (fun w' => w'.cell? ⟨w2.heap.size, 0, none⟩ = some (.int .i64 L) ∧ w'.cell? ⟨w2.heap.size, 1, none⟩ = some (.int .i64 U)) (first | (go_keep; done) | (simp [*, go_sem]; done))
    (first
      | (go_at_call 102; refine (specFloor_any _ _ _ r0' (by omega) (by omega) (by omega)).mono ?_; rintro e w' ⟨rfl, rfl⟩)
      | (go_at_call 103; refine (specCeil_any _ _ _ r0' (by omega) (by omega) (by omega)).mono ?_; rintro e w' ⟨rfl, rfl⟩)
      | (go_at_call 73; refine (l06Limit_any _ _ _).mono ?_; rintro e w4 ⟨rfl, hb4⟩; obtain ⟨B4, hz4, q4, s4, t4, x4, y4, z4⟩ := bkeep (w := w) [w.heap.size, w.heap.size + 1, w.heap.size + 2, w2.heap.size] (by first | (simp; done) | (simp; omega)) (by first | (go_grown; done) | exact bdrewN (by go_grown) _) hb4; (try simp at hz4); clear hb4))
  clear W1 W2
  go_wp2
  refine bodyPost_ret (by simp [results, Tryz.results92, go_sem, *] <;> rfl) rfl ?_
  exact ⟨by rw [E1.out, E2.out], (by first | with_reducible exact B4 | (go_grown; done) | with_reducible exact bdrewN B4 _ | (go_grown <;> first | with_reducible exact bdrewN B4 _ | with_reducible exact B4))⟩
theorem l06Turn_any (A1 A2 : Option Addr) (c1 c2 : Nat) (ds ss : List Int) (src co si hy l : Int) (ab : Bool) (w : World) (h : ProfAt w A1 c1 A2 c2 ds ss) (r : RayOk ds ss src co si hy) (l0 : 0 ≤ l) (l1 : l + 1 < ss.length) (hcn : canB ss src co hy (nearK l ab) = true) (hcf : canB ss src co hy (farK l ab) = false) :
    Calls Tryz.prog 92 #[profV A1 ds.length c1 A2 ss.length c2, .int .i64 src, dirV co si hy, .int .i64 l, .bool ab] w fun e w' => e = .returned (.tuple #[ivV (limLo (tnLo ds ss src co hy (nearK l ab) (farK l ab)) (tnHi ds ss src co hy (nearK l ab) (farK l ab))) (limHi (tnLo ds ss src co hy (nearK l ab) (farK l ab)) (tnHi ds ss src co hy (nearK l ab) (farK l ab))), .int .i64 (limC (tnLo ds ss src co hy (nearK l ab) (farK l ab)) (tnHi ds ss src co hy (nearK l ab) (farK l ab)) 3)]) ∧ Below w.heap.size w w' := by
  cases ab
  · exact l06Turn_false A1 A2 c1 c2 ds ss src co si hy l w h r l0 l1 hcn hcf
  · exact l06Turn_true A1 A2 c1 c2 ds ss src co si hy l w h r l0 l1 hcn hcf
end Go.Proofs.YtopggkomkfjbfaaGreat
