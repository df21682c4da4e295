/- The radius of the circle in a layer, by the program and by the reference. -/
import Derived.Test.YtmgmhaikehjddaaArc2
namespace Go.Proofs.Ytmgmhaikehjddaa
set_option linter.unusedSimpArgs false
set_option linter.unusedVariables false
open Go.RowKit

theorem newArc_true (A1 A2 : Option Addr) (c1 c2 : Nat) (ds ss : List Int) (src co si hy l : Int) (w : World) (h : ProfAt w A1 c1 A2 c2 ds ss) (ho : arcE ds ss src co si hy l = 0) :
    Calls Try.prog 116 #[profV A1 ds.length c1 A2 ss.length c2, .int .i64 src, dirV co si hy, .int .i64 l, .bool true] w fun e w' => e = .returned (.tuple #[arcV A1 ds.length c1 A2 ss.length c2 src co si hy l (l + 1), .int .i64 0]) ∧ Below w.heap.size w w' :=
  newArc_ok A1 A2 c1 c2 ds ss src co si hy l true w h ho
/-- radius times the product of Cos and the difference of the speeds; that product -/
def radN (ds ss : List Int) (src hy l : Int) : Int := hy * spd ss src * (spd ds (l + 1) - spd ds l)
def radW (ss : List Int) (co l : Int) : Int := co * ((spd ss (l + 1) - spd ss l).natAbs : Int)
@[irreducible] def arC (ds ss : List Int) (src co si hy l : Int) : Int := if arcE ds ss src co si hy l = 0 then (if spd ss l = spd ss (l + 1) then 5 else limC (radN ds ss src hy l / radW ss co l) (-(-radN ds ss src hy l / radW ss co l)) 3) else arcE ds ss src co si hy l
@[irreducible] def arLo (ds ss : List Int) (src co si hy l : Int) : Int := if arcE ds ss src co si hy l = 0 then (if spd ss l = spd ss (l + 1) then 0 else limLo (radN ds ss src hy l / radW ss co l) (-(-radN ds ss src hy l / radW ss co l))) else 0
@[irreducible] def arHi (ds ss : List Int) (src co si hy l : Int) : Int := if arcE ds ss src co si hy l = 0 then (if spd ss l = spd ss (l + 1) then 0 else limHi (radN ds ss src hy l / radW ss co l) (-(-radN ds ss src hy l / radW ss co l))) else 0
theorem ar_bad {ds ss : List Int} {src co si hy l : Int} (h0 : arcE ds ss src co si hy l ≠ 0) : arC ds ss src co si hy l = arcE ds ss src co si hy l ∧ arLo ds ss src co si hy l = 0 ∧ arHi ds ss src co si hy l = 0 := by
  unfold arC arLo arHi; rw [if_neg h0, if_neg h0, if_neg h0]; exact ⟨rfl, rfl, rfl⟩
theorem ar_flat {ds ss : List Int} {src co si hy l : Int} (h0 : arcE ds ss src co si hy l = 0) (h1 : spd ss l = spd ss (l + 1)) : arC ds ss src co si hy l = 5 ∧ arLo ds ss src co si hy l = 0 ∧ arHi ds ss src co si hy l = 0 := by
  unfold arC arLo arHi; rw [if_pos h0, if_pos h0, if_pos h0, if_pos h1, if_pos h1, if_pos h1]; exact ⟨rfl, rfl, rfl⟩

/-- what a layer's numbers are -/
structure LayOk (ds ss : List Int) (src co hy l : Int) (P T R W : Int) : Prop where
  p0 : 1300000 ≤ P
  p1 : P ≤ 1700000000
  t0 : 1 ≤ T
  t1 : T ≤ 1000000
  n0 : 0 ≤ P * T
  n1 : P * T ≤ 1700000000000000
  w0 : 0 ≤ W
  w1 : W ≤ 400000000
  r0 : -400000000 ≤ R
  r1 : R ≤ 400000000
  eP : hy * spd ss src = P
  eT : spd ds (l + 1) - spd ds l = T
  eR : co * spd ss (l + 1) - co * spd ss l = R
  eW : radW ss co l = W
  aT : ((spd ds (l + 1) - spd ds l).natAbs : Int) = T
  aW : (R.natAbs : Int) = W
theorem layOk {ds ss : List Int} {src co si hy l : Int} (r : RayOk ds ss src co si hy) (l0 : 0 ≤ l) (l1 : l + 1 < ss.length) :
    LayOk ds ss src co hy l (hy * spd ss src) (spd ds (l + 1) - spd ds l) (co * spd ss (l + 1) - co * spd ss l) (radW ss co l) := by
  have a := r.whole
  have d1 := r.dp l l0 (by omega)
  have d2 := r.dp (l + 1) (by omega) l1
  have u := r.up l l0 l1
  have s1 := r.sp l l0 (by omega)
  have s2 := r.sp (l + 1) (by omega) l1
  have c0 := r.c0; have c1 := r.c1; have h1 := r.h1
  obtain ⟨m1, m2⟩ := mul_bd (a := hy * spd ss src) (b := spd ds (l + 1) - spd ds l) (A := 1700000000) (B := 1000000) (by omega) (by omega) (by omega) (by omega)
  obtain ⟨k1, k2⟩ := mul_bd (a := spd ss (l + 1) - spd ss l) (b := co) (A := 400000) (B := 1000) (by omega) (by omega) (by omega) (by omega)
  have e : co * spd ss (l + 1) - co * spd ss l = (spd ss (l + 1) - spd ss l) * co := by rw [Int.sub_mul, Int.mul_comm co, Int.mul_comm co]
  have n0 := Int.mul_nonneg (show 0 ≤ hy * spd ss src by omega) (show 0 ≤ spd ds (l + 1) - spd ds l by omega)
  have aw : ((co * spd ss (l + 1) - co * spd ss l).natAbs : Int) = radW ss co l := by
    unfold radW
    rw [e, Int.natAbs_mul, Nat.mul_comm, Int.natCast_mul, Int.natAbs_of_nonneg (show 0 ≤ co by omega)]
  have ew0 : 0 ≤ radW ss co l := by rw [← aw]; omega
  exact ⟨a.1, a.2, by omega, by omega, n0, by omega, ew0, by omega, by omega, by omega, rfl, rfl, rfl, rfl, by omega, aw⟩
theorem layFlat {ds ss : List Int} {src co si hy l P T R W : Int} (r : RayOk ds ss src co si hy) (h : LayOk ds ss src co hy l P T R W) : (R = 0 ↔ spd ss l = spd ss (l + 1)) := by
  have c0 := r.c0
  have e := h.eR
  rw [← Int.mul_sub] at e
  constructor
  · intro g
    rw [g] at e
    rcases Int.mul_eq_zero.1 e with g1 | g1 <;> omega
  · intro g; rw [← e, g]; simp

set_option maxHeartbeats 2000000 in
theorem implArcRadius_any (A1 A2 : Option Addr) (c1 c2 : Nat) (ds ss : List Int) (src co si hy l : Int) (w : World) (h : ProfAt w A1 c1 A2 c2 ds ss) :
    Calls Try.prog 44 #[profV A1 ds.length c1 A2 ss.length c2, .int .i64 src, dirV co si hy, .int .i64 l] w fun e w' => e = .returned (.tuple #[ivV (arLo ds ss src co si hy l) (arHi ds ss src co si hy l), .int .i64 (arC ds ss src co si hy l)]) ∧ Below w.heap.size w w' := by
  by_cases h0 : arcE ds ss src co si hy l = 0
  · obtain ⟨r, l0, l1, -, -⟩ := arc_ok h0
    have lk := layOk r l0 l1
    have hfl := layFlat r lk
    have la : 0 ≤ l + 1 := by omega
    have lb : l < ss.length := by omega
    by_cases hf : spd ss l = spd ss (l + 1)
    · obtain ⟨e1, e2, e3⟩ := ar_flat h0 hf
      have hR : co * spd ss (l + 1) - co * spd ss l = 0 := hfl.2 hf
      have H := Lib.hid h; have RR := Lib.hid r; have E1 := Lib.hid e1; have E2 := Lib.hid e2; have E3 := Lib.hid e3; have H0 := Lib.hid h0; have HR := Lib.hid hR; clear h r e1 e2 e3 h0 hfl lk hf hR
      go_enter Try.func44, Try.ntmps44
      go_wp2_with (first
        | (go_at_call 116; refine (newArc_true _ _ _ _ _ _ _ _ _ _ _ _ ⟨(H.out.1.below (B := w.heap.size) (by first | exact Below.refl _ _ | (go_grown; done) | exact bdrewN (by go_grown) _) (Nat.le_refl _)), (H.out.2.below (B := w.heap.size) (by first | exact Below.refl _ _ | (go_grown; done) | exact bdrewN (by go_grown) _) (Nat.le_refl _))⟩ H0.out).mono ?_; rintro e w1 ⟨rfl, hb1⟩; obtain ⟨B1, hz1, q1, s1, t1, x1, y1, z1⟩ := bkeep (w := w) [w.heap.size, w.heap.size + 1, w.heap.size + 2] (by first | (simp; done) | (simp; omega)) (by first | (go_grown; done) | exact bdrewN (by go_grown) _) hb1; (try simp at hz1); clear hb1)
        | (go_at_call 127; refine (rise_any _ _ _ _ _ ds _ _ _ _ _ _ _ 0 _ (H.out.2.below (B := w.heap.size) (by first | exact Below.refl _ _ | (go_grown; done) | exact bdrewN (by go_grown) _) (Nat.le_refl _)) RR.out l0 lb la l1 HR.out).mono ?_; rintro e w2 ⟨rfl, hb2⟩; obtain ⟨B2, hz2, q2, s2, t2, x2, y2, z2⟩ := bkeep (w := w) [w.heap.size, w.heap.size + 1, w.heap.size + 2] (by first | (simp; done) | (simp; omega)) (by first | (go_grown; done) | exact bdrewN (by go_grown) _) hb2; (try simp at hz2); clear hb2))
      have d0 : w2.cell? ⟨w.heap.size + 1 + 1, 0, none⟩ = some (.int .i64 0) := by simp [*, go_sem]
      have d1 : w2.cell? ⟨w.heap.size + 1 + 1, 1, none⟩ = some (.int .i64 0) := by simp [*, go_sem]
      clear q1 q2
      refine bodyPost_ret (by simp [results, Try.results44, go_sem, *] <;> rfl) rfl ?_
      exact ⟨by rw [E1.out, E2.out, E3.out], (by first | with_reducible exact B2 | (go_grown; done) | with_reducible exact bdrewN B2 _ | (go_grown <;> first | with_reducible exact bdrewN B2 _ | with_reducible exact B2))⟩
    · have e1 : arC ds ss src co si hy l = limC (radN ds ss src hy l / radW ss co l) (-(-radN ds ss src hy l / radW ss co l)) 3 := by unfold arC; rw [if_pos h0, if_neg hf]
      have e2 : arLo ds ss src co si hy l = limLo (radN ds ss src hy l / radW ss co l) (-(-radN ds ss src hy l / radW ss co l)) := by unfold arLo; rw [if_pos h0, if_neg hf]
      have e3 : arHi ds ss src co si hy l = limHi (radN ds ss src hy l / radW ss co l) (-(-radN ds ss src hy l / radW ss co l)) := by unfold arHi; rw [if_pos h0, if_neg hf]
      unfold radN at e1 e2 e3
      have hR : ¬ co * spd ss (l + 1) - co * spd ss l = 0 := fun g => hf (hfl.1 g)
      have pw := r.whole
      have dn := r.dp l l0 lb; have df := r.dp (l + 1) la l1
      have ll := r.l1; have lc := r.l2; have ld := r.l3
      have sr0 := r.s0; have sr1 := r.s1
      generalize hP : hy * spd ss src = P at *
      generalize hT : spd ds (l + 1) - spd ds l = T at *
      generalize hRR : co * spd ss (l + 1) - co * spd ss l = R at *
      generalize hW : radW ss co l = Wd at *
      obtain ⟨p0, p1, t0, t1, n0, n1, w0', w1', rr0, rr1, -, -, -, -, aT, aW⟩ := lk
      rw [hT] at aT
      have hRb : (R == 0) = false := by simpa using hR
      have hW0 : 0 < Wd := by omega
      have hTT : ((spd ds (l + 1) - spd ds l).natAbs : Int) = T := by rw [hT]; exact aT
      obtain ⟨f1, f2⟩ := div_bd (a := P * T) (b := Wd) (M := 1700000000000000) hW0 (by omega) n1
      obtain ⟨f3, f4⟩ := div_bd (a := -(P * T)) (b := Wd) (M := 1700000000000000) hW0 (by omega) (by omega)
      have H := Lib.hid h; have RR := Lib.hid r; have E1 := Lib.hid e1; have E2 := Lib.hid e2; have E3 := Lib.hid e3; have H0 := Lib.hid h0; have HP := Lib.hid hP; have HT := Lib.hid hTT; have HR := Lib.hid hRR; have HW := Lib.hid aW
      clear h r e1 e2 e3 h0 hfl hf hP hTT hRR aW aT hT hW hR
      go_enter Try.func44, Try.ntmps44
      go_wp2_with (first
        | (go_at_call 116; refine (newArc_true _ _ _ _ _ _ _ _ _ _ _ _ ⟨(H.out.1.below (B := w.heap.size) (by first | exact Below.refl _ _ | (go_grown; done) | exact bdrewN (by go_grown) _) (Nat.le_refl _)), (H.out.2.below (B := w.heap.size) (by first | exact Below.refl _ _ | (go_grown; done) | exact bdrewN (by go_grown) _) (Nat.le_refl _))⟩ H0.out).mono ?_; rintro e w1 ⟨rfl, hb1⟩; obtain ⟨B1, hz1, q1, s1, t1, x1, y1, z1⟩ := bkeep (w := w) [w.heap.size, w.heap.size + 1, w.heap.size + 2] (by first | (simp; done) | (simp; omega)) (by first | (go_grown; done) | exact bdrewN (by go_grown) _) hb1; (try simp at hz1); clear hb1)
        | (go_at_call 127; refine (rise_any _ _ _ _ _ ds _ _ _ _ _ _ _ R _ (H.out.2.below (B := w.heap.size) (by first | exact Below.refl _ _ | (go_grown; done) | exact bdrewN (by go_grown) _) (Nat.le_refl _)) RR.out l0 lb la l1 HR.out).mono ?_; rintro e w2 ⟨rfl, hb2⟩; obtain ⟨B2, hz2, q2, s2, t2, x2, y2, z2⟩ := bkeep (w := w) [w.heap.size, w.heap.size + 1, w.heap.size + 2, w1.heap.size] (by first | (simp; done) | (simp; omega)) (by first | (go_grown; done) | exact bdrewN (by go_grown) _) hb2; (try simp at hz2); clear hb2))
      refine genS (S := fun w' => Below w.heap.size w w' ∧ w.heap.size + 1 + 1 < w'.heap.size ∧ w1.heap.size < w'.heap.size ∧ (∀ o, w'.frozen? ⟨w.heap.size + 1 + 1, o, none⟩ = false) ∧ w'.cell? ⟨w1.heap.size, 0, none⟩ = some (.slice A1 ds.length c1) ∧ w'.cell? ⟨w1.heap.size, 1, none⟩ = some (.slice A2 ss.length c2) ∧ w'.cell? ⟨w1.heap.size, 2, none⟩ = some (.int .i64 src) ∧ w'.cell? ⟨w1.heap.size, 3, none⟩ = some (.int .i64 co) ∧ w'.cell? ⟨w1.heap.size, 4, none⟩ = some (.int .i64 si) ∧ w'.cell? ⟨w1.heap.size, 5, none⟩ = some (.int .i64 hy) ∧ w'.cell? ⟨w1.heap.size, 6, none⟩ = some (.int .i64 l) ∧ w'.cell? ⟨w1.heap.size, 7, none⟩ = some (.int .i64 (l + 1)) ∧ w'.cell? ⟨w.heap.size + 1 + 1, 0, none⟩ = some (.int .i64 0) ∧ w'.cell? ⟨w.heap.size + 1 + 1, 1, none⟩ = some (.int .i64 0)) ⟨(by first | with_reducible exact B2 | (go_grown; done) | with_reducible exact bdrewN B2 _ | (go_grown <;> first | with_reducible exact bdrewN B2 _ | with_reducible exact B2)), by first | omega | (simp; done) | (simp; omega) | (have := x2 _ (by first | assumption | simp); omega) | (have hx_ := x2 (w.heap.size + 1 + 1) (by simp); simp; omega), by first | omega | (simp; done) | (simp; omega) | (have := x2 _ (by first | assumption | simp); omega) | (have hx_ := x2 (w1.heap.size) (by simp); simp; omega), fun o => by simp [*, go_sem], by simp [*, go_sem], by simp [*, go_sem], by simp [*, go_sem], by simp [*, go_sem], by simp [*, go_sem], by simp [*, go_sem], by simp [*, go_sem], by simp [*, go_sem], by simp [*, go_sem], by simp [*, go_sem]⟩ ?_
      rintro w3 ⟨B3, lt3_0, lt3_1, fz3, r3_0, r3_1, r3_2, r3_3, r3_4, r3_5, r3_6, r3_7, r3_8, r3_9⟩
      clear q1 s1 t1 x1 y1 q2 s2 t2 x2 y2
      have zz1 : w.heap.size + 1 + 1 ≠ w1.heap.size := by omega
      have zz2 : w1.heap.size ≠ w.heap.size + 1 + 1 := by omega
      have z3 : w.heap.size ≤ w3.heap.size := B3.size
      have W1 : IntKind.i64.wrap (P * T) = P * T := IntWalk.i64_in _ (by omega)
      go_region_held3 (fun w' => w'.cell? ⟨w1.heap.size, 0, none⟩ = some (.slice A1 ds.length c1) ∧ w'.cell? ⟨w1.heap.size, 1, none⟩ = some (.slice A2 ss.length c2) ∧ w'.cell? ⟨w1.heap.size, 2, none⟩ = some (.int .i64 src) ∧ w'.cell? ⟨w1.heap.size, 3, none⟩ = some (.int .i64 co) ∧ w'.cell? ⟨w1.heap.size, 4, none⟩ = some (.int .i64 si) ∧ w'.cell? ⟨w1.heap.size, 5, none⟩ = some (.int .i64 hy) ∧ w'.cell? ⟨w1.heap.size, 6, none⟩ = some (.int .i64 l) ∧ w'.cell? ⟨w1.heap.size, 7, none⟩ = some (.int .i64 (l + 1))) (first | (go_keep; done) | (simp [*, go_sem]; done))
        (first
          | (go_at_call 128; refine (whole_eq _ _ _ _ _ _ _ _ _ _ P _ (H.out.2.below (B := w.heap.size) (by first | exact Below.refl _ _ | (go_grown; done) | exact bdrewN (by go_grown) _) (Nat.le_refl _)) sr0 sr1 ⟨p0, p1⟩ HP.out).mono ?_; rintro e w4 ⟨rfl, hb4⟩; obtain ⟨B4, hz4, q4, s4, t4, x4, y4, z4⟩ := bkeep (w := w) [w.heap.size + 2, w1.heap.size] (by first | (simp; done) | (simp; omega)) (by first | (go_grown; done) | exact bdrewN (by go_grown) _) hb4; (try simp at hz4); clear hb4)
          | (go_at_call 129; refine (thick_any _ _ _ _ _ _ _ _ _ _ _ _ T _ (H.out.1.below (B := w.heap.size) (by first | exact Below.refl _ _ | (go_grown; done) | exact bdrewN (by go_grown) _) (Nat.le_refl _)) l0 (by omega) la (by omega) ll dn df HT.out).mono ?_; rintro e w5 ⟨rfl, hb5⟩; obtain ⟨B5, hz5, q5, s5, t5, x5, y5, z5⟩ := bkeep (w := w) [w.heap.size + 2, w1.heap.size] (by first | (simp; done) | (simp; omega)) (by first | (go_grown; done) | exact bdrewN (by go_grown) _) hb5; (try simp at hz5); clear hb5))
      clear W1
      go_wp2_with fail
      refine genS (S := fun w' => Below w.heap.size w w' ∧ w.heap.size + 1 + 1 < w'.heap.size ∧ w1.heap.size < w'.heap.size ∧ (∀ o, w'.frozen? ⟨w.heap.size + 1 + 1, o, none⟩ = false) ∧ w'.cell? ⟨w1.heap.size, 0, none⟩ = some (.slice A1 ds.length c1) ∧ w'.cell? ⟨w1.heap.size, 1, none⟩ = some (.slice A2 ss.length c2) ∧ w'.cell? ⟨w1.heap.size, 2, none⟩ = some (.int .i64 src) ∧ w'.cell? ⟨w1.heap.size, 3, none⟩ = some (.int .i64 co) ∧ w'.cell? ⟨w1.heap.size, 4, none⟩ = some (.int .i64 si) ∧ w'.cell? ⟨w1.heap.size, 5, none⟩ = some (.int .i64 hy) ∧ w'.cell? ⟨w1.heap.size, 6, none⟩ = some (.int .i64 l) ∧ w'.cell? ⟨w1.heap.size, 7, none⟩ = some (.int .i64 (l + 1)) ∧ w'.cell? ⟨w.heap.size + 1 + 1, 0, none⟩ = some (.int .i64 0) ∧ w'.cell? ⟨w.heap.size + 1 + 1, 1, none⟩ = some (.int .i64 0)) ⟨(by first | with_reducible exact B5 | (go_grown; done) | with_reducible exact bdrewN B5 _ | (go_grown <;> first | with_reducible exact bdrewN B5 _ | with_reducible exact B5)), by first | omega | (simp; done) | (simp; omega) | (have := x5 _ (by first | assumption | simp); omega) | (have hx_ := x5 (w.heap.size + 1 + 1) (by simp); simp; omega), by first | omega | (simp; done) | (simp; omega) | (have := x5 _ (by first | assumption | simp); omega) | (have hx_ := x5 (w1.heap.size) (by simp); simp; omega), fun o => by simp [*, go_sem], by simp [*, go_sem], by simp [*, go_sem], by simp [*, go_sem], by simp [*, go_sem], by simp [*, go_sem], by simp [*, go_sem], by simp [*, go_sem], by simp [*, go_sem], by simp [*, go_sem], by simp [*, go_sem]⟩ ?_
      rintro w6 ⟨B6, lt6_0, lt6_1, fz6, r6_0, r6_1, r6_2, r6_3, r6_4, r6_5, r6_6, r6_7, r6_8, r6_9⟩
      clear q4 s4 t4 x4 y4 q5 s5 t5 x5 y5
      have z6 : w.heap.size ≤ w6.heap.size := B6.size
      go_region_held3 (fun w' => w'.cell? ⟨w1.heap.size, 0, none⟩ = some (.slice A1 ds.length c1) ∧ w'.cell? ⟨w1.heap.size, 1, none⟩ = some (.slice A2 ss.length c2) ∧ w'.cell? ⟨w1.heap.size, 2, none⟩ = some (.int .i64 src) ∧ w'.cell? ⟨w1.heap.size, 3, none⟩ = some (.int .i64 co) ∧ w'.cell? ⟨w1.heap.size, 4, none⟩ = some (.int .i64 si) ∧ w'.cell? ⟨w1.heap.size, 5, none⟩ = some (.int .i64 hy) ∧ w'.cell? ⟨w1.heap.size, 6, none⟩ = some (.int .i64 l) ∧ w'.cell? ⟨w1.heap.size, 7, none⟩ = some (.int .i64 (l + 1))) (first | (go_keep; done) | (simp [*, go_sem]; done))
        (first
          | (have hq_ := B7; (go_at_call 127; refine (rise_any _ _ _ _ _ ds _ _ _ _ _ _ _ R _ (H.out.2.below (B := w.heap.size) (by first | exact Below.refl _ _ | (go_grown; done) | exact bdrewN (by go_grown) _) (Nat.le_refl _)) RR.out l0 lb la l1 HR.out).mono ?_; rintro e w8 ⟨rfl, hb8⟩; obtain ⟨B8, hz8, q8, s8, t8, x8, y8, z8⟩ := bkeep (w := w) [w.heap.size + 2, w1.heap.size] (by first | (simp; done) | (simp; omega)) (by first | (go_grown; done) | exact bdrewN (by go_grown) _) hb8; (try simp at hz8); clear hb8))
          | (go_at_call 127; refine (rise_any _ _ _ _ _ ds _ _ _ _ _ _ _ R _ (H.out.2.below (B := w.heap.size) (by first | exact Below.refl _ _ | (go_grown; done) | exact bdrewN (by go_grown) _) (Nat.le_refl _)) RR.out l0 lb la l1 HR.out).mono ?_; rintro e w7 ⟨rfl, hb7⟩; obtain ⟨B7, hz7, q7, s7, t7, x7, y7, z7⟩ := bkeep (w := w) [w.heap.size + 2, w1.heap.size] (by first | (simp; done) | (simp; omega)) (by first | (go_grown; done) | exact bdrewN (by go_grown) _) hb7; (try simp at hz7); clear hb7)
          | (go_at_call 130; refine (abs_eq _ Wd _ (by omega) (by omega) HW.out).mono ?_; rintro e w' ⟨rfl, rfl⟩)
          | (go_at_call 88; refine (implFloor_any _ _ _ hW0 (by omega) (by omega) (by omega)).mono ?_; rintro e w' ⟨rfl, rfl⟩)
          | (go_at_call 89; refine (implCeil_any _ _ _ hW0 (by omega) (by omega) (by omega)).mono ?_; rintro e w' ⟨rfl, rfl⟩)
          | (go_at_call 112; refine (checked_any _ _ _ _).mono ?_; rintro e w9 ⟨rfl, hb9⟩; obtain ⟨B9, hz9, q9, s9, t9, x9, y9, z9⟩ := bkeep (w := w) [w.heap.size + 2, w1.heap.size] (by first | (simp; done) | (simp; omega)) (by first | (go_grown; done) | exact bdrewN (by go_grown) _) hb9; (try simp at hz9); clear hb9))
      go_wp2
      refine bodyPost_ret (by simp [results, Try.results44, go_sem, *] <;> rfl) rfl ?_
      exact ⟨by rw [E1.out, E2.out, E3.out], (by first | with_reducible exact B9 | (go_grown; done) | with_reducible exact bdrewN B9 _ | (go_grown <;> first | with_reducible exact bdrewN B9 _ | with_reducible exact B9))⟩
  · obtain ⟨e1, e2, e3⟩ := ar_bad h0
    have hE : (arcE ds ss src co si hy l != 0) = true := by simpa using h0
    have H := Lib.hid h; have E1 := Lib.hid e1; have E2 := Lib.hid e2; have E3 := Lib.hid e3; have H0 := Lib.hid h0; clear h e1 e2 e3 h0
    go_enter Try.func44, Try.ntmps44
    go_wp2_with (go_at_call 116; refine (newArc_bad _ _ _ _ _ _ _ _ _ _ _ _ _ ⟨(H.out.1.below (B := w.heap.size) (by first | exact Below.refl _ _ | (go_grown; done) | exact bdrewN (by go_grown) _) (Nat.le_refl _)), (H.out.2.below (B := w.heap.size) (by first | exact Below.refl _ _ | (go_grown; done) | exact bdrewN (by go_grown) _) (Nat.le_refl _))⟩ H0.out).mono ?_; rintro e w1 ⟨rfl, hb1⟩; obtain ⟨B1, hz1, q1, s1, t1, x1, y1, z1⟩ := bkeep (w := w) [w.heap.size, w.heap.size + 1, w.heap.size + 2] (by first | (simp; done) | (simp; omega)) (by first | (go_grown; done) | exact bdrewN (by go_grown) _) hb1; (try simp at hz1); clear hb1)
    have d0 : w1.cell? ⟨w.heap.size + 1 + 1, 0, none⟩ = some (.int .i64 0) := by simp [*, go_sem]
    have d1 : w1.cell? ⟨w.heap.size + 1 + 1, 1, none⟩ = some (.int .i64 0) := by simp [*, go_sem]
    clear q1
    refine bodyPost_ret (by simp [results, Try.results44, go_sem, *] <;> rfl) rfl ?_
    exact ⟨by rw [E1.out, E2.out, E3.out], (by first | with_reducible exact B1 | (go_grown; done) | with_reducible exact bdrewN B1 _ | (go_grown <;> first | with_reducible exact bdrewN B1 _ | with_reducible exact B1))⟩
end Go.Proofs.Ytmgmhaikehjddaa
