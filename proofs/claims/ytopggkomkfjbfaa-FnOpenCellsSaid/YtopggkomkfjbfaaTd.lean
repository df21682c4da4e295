/- The depth at which a ray is horizontal in a layer, by the program. -/
import Derived.Test.YtopggkomkfjbfaaRad
namespace Go.Proofs.Ytopggkomkfjbfaa
set_option linter.unusedSimpArgs false
set_option linter.unusedVariables false
open Go.RowKit

/-- the code of a layer with a verdict -/
@[irreducible] def vaE (v : Int) (ds ss : List Int) (src co si hy l : Int) (ab : Bool) : Int := if arcE ds ss src co si hy l = 0 then (if vdI ss src co hy (nearK l ab) (farK l ab) = v then 0 else 5) else arcE ds ss src co si hy l
theorem va_ok {v : Int} {ds ss : List Int} {src co si hy l : Int} {ab : Bool} (h : vaE v ds ss src co si hy l ab = 0) : arcE ds ss src co si hy l = 0 ∧ vdI ss src co hy (nearK l ab) (farK l ab) = v := by
  unfold vaE at h
  by_cases h0 : arcE ds ss src co si hy l = 0
  · rw [if_pos h0] at h
    by_cases h1 : vdI ss src co hy (nearK l ab) (farK l ab) = v
    · exact ⟨h0, h1⟩
    · rw [if_neg h1] at h; omega
  · rw [if_neg h0] at h; exact absurd h h0
theorem va_other {v : Int} {ds ss : List Int} {src co si hy l : Int} {ab : Bool} (h0 : arcE ds ss src co si hy l = 0) (h : vaE v ds ss src co si hy l ab ≠ 0) : vdI ss src co hy (nearK l ab) (farK l ab) ≠ v ∧ vaE v ds ss src co si hy l ab = 5 := by
  unfold vaE at h ⊢
  rw [if_pos h0] at h ⊢
  by_cases h1 : vdI ss src co hy (nearK l ab) (farK l ab) = v
  · rw [if_pos h1] at h; exact absurd rfl h
  · rw [if_neg h1]; exact ⟨h1, rfl⟩
theorem va_bad {v : Int} {ds ss : List Int} {src co si hy l : Int} {ab : Bool} (h0 : arcE ds ss src co si hy l ≠ 0) : vaE v ds ss src co si hy l ab = arcE ds ss src co si hy l := by
  unfold vaE; rw [if_neg h0]
theorem vd_two {ss : List Int} {src co hy n f : Int} (h : vdI ss src co hy n f = 2) : canB ss src co hy n = true ∧ canB ss src co hy f = false := by
  unfold vdI at h
  by_cases h1 : canB ss src co hy n = true
  · rw [if_pos h1] at h
    by_cases h2 : canB ss src co hy f = true
    · rw [if_pos h2] at h; omega
    · exact ⟨h1, by simpa using h2⟩
  · rw [if_neg h1] at h; omega

/-! the depth -/
def tdN (ds ss : List Int) (src co hy n f : Int) : Int := ((spd ds f - spd ds n).natAbs : Int) * (hy * spd ss src - co * spd ss n)
def tdR (ss : List Int) (co n f : Int) : Int := co * spd ss f - co * spd ss n
def tdLo (ds ss : List Int) (src co hy n f : Int) : Int := if n < f then spd ds n + tdN ds ss src co hy n f / tdR ss co n f else spd ds n - -(-tdN ds ss src co hy n f / tdR ss co n f)
def tdHi (ds ss : List Int) (src co hy n f : Int) : Int := if n < f then spd ds n + -(-tdN ds ss src co hy n f / tdR ss co n f) else spd ds n - tdN ds ss src co hy n f / tdR ss co n f

structure TdOk (ds ss : List Int) (src co hy n f : Int) (P Q R T : Int) : Prop where
  p0 : 1300000 ≤ P
  p1 : P ≤ 1700000000
  q0 : 1300000 ≤ Q
  q1 : Q ≤ 1700000000
  r0 : 0 < R
  r1 : R ≤ 1700000000
  v0 : 0 < P - Q
  t0 : 0 ≤ T
  t1 : T ≤ 1000000
  n0 : 0 ≤ T * (P - Q)
  n1 : T * (P - Q) ≤ 1700000000000000
  eP : hy * spd ss src = P
  eQ : co * spd ss n = Q
  eR : co * spd ss f - co * spd ss n = R
  eT : ((spd ds f - spd ds n).natAbs : Int) = T
theorem tdOk {ds ss : List Int} {src co si hy n f : Int} (r : RayOk ds ss src co si hy) (n0 : 0 ≤ n) (n1 : n < ss.length) (f0 : 0 ≤ f) (f1 : f < ss.length) (hn : canB ss src co hy n = true) (hf : canB ss src co hy f = false) :
    TdOk ds ss src co hy n f (hy * spd ss src) (co * spd ss n) (co * spd ss f - co * spd ss n) ((spd ds f - spd ds n).natAbs : Int) := by
  have a := r.whole; have b := r.part n0 n1; have c := r.part f0 f1
  have g1 : co * spd ss n < hy * spd ss src := of_decide_eq_true hn
  have g2 : ¬ co * spd ss f < hy * spd ss src := of_decide_eq_false hf
  have d1 := r.dp n n0 n1; have d2 := r.dp f f0 f1
  obtain ⟨m1, m2⟩ := mul_bd (a := hy * spd ss src - co * spd ss n) (b := ((spd ds f - spd ds n).natAbs : Int)) (A := 1700000000) (B := 1000000) (by omega) (by omega) (by omega) (by omega)
  have m3 := Int.mul_nonneg (show 0 ≤ ((spd ds f - spd ds n).natAbs : Int) by omega) (show 0 ≤ hy * spd ss src - co * spd ss n by omega)
  rw [Int.mul_comm] at m2
  exact ⟨a.1, a.2, b.1, b.2, by omega, by omega, by omega, by omega, by omega, m3, by omega, rfl, rfl, rfl, rfl⟩

set_option maxHeartbeats 2000000 in
theorem turnDepth_any (A1 A2 : Option Addr) (c1 c2 : Nat) (ds ss : List Int) (src co si hy n f : Int) (w : World) (h : ProfAt w A1 c1 A2 c2 ds ss) (r : RayOk ds ss src co si hy) (n0 : 0 ≤ n) (n1' : n < ss.length) (f0 : 0 ≤ f) (f1 : f < ss.length) (hcn : canB ss src co hy n = true) (hcf : canB ss src co hy f = false) :
    Calls Try.prog 58 #[arcV A1 ds.length c1 A2 ss.length c2 src co si hy n f] w fun e w' => e = .returned (ivV (tdLo ds ss src co hy n f) (tdHi ds ss src co hy n f)) ∧ Below w.heap.size w w' := by
  have tk := tdOk r n0 n1' f0 f1 hcn hcf
  have e1 : tdLo ds ss src co hy n f = if n < f then spd ds n + tdN ds ss src co hy n f / tdR ss co n f else spd ds n - -(-tdN ds ss src co hy n f / tdR ss co n f) := rfl
  have e2 : tdHi ds ss src co hy n f = if n < f then spd ds n + -(-tdN ds ss src co hy n f / tdR ss co n f) else spd ds n - tdN ds ss src co hy n f / tdR ss co n f := rfl
  unfold tdN tdR at e1 e2
  have hdn := r.dp n n0 n1'; have hdf := r.dp f f0 f1
  have ll := r.l1; have lc := r.l2; have ld := r.l3
  have sr0 := r.s0; have sr1 := r.s1
  obtain ⟨m, rfl⟩ := Int.eq_ofNat_of_zero_le n0
  obtain ⟨bb1, o1, rfl, hb1, qq⟩ := h.1.spd (by omega)
  have xn := qq m (by omega)
  have k0 : (0 : Int) ≤ m := by omega
  have k2 : (m : Int) < ds.length := by omega
  generalize hP : hy * spd ss src = P at *
  generalize hQ : co * spd ss m = Q at *
  generalize hR : co * spd ss f - Q = R at *
  generalize hT : ((spd ds f - spd ds m).natAbs : Int) = T at *
  obtain ⟨p0, p1, q0, q1, r0', r1', v0, t0, t1, nn0, nn1, -, -, -, -⟩ := tk
  obtain ⟨g1, g2⟩ := div_bd (a := T * (P - Q)) (b := R) (M := 1700000000000000) r0' (by omega) nn1
  obtain ⟨g3, g4⟩ := div_bd (a := -(T * (P - Q))) (b := R) (M := 1700000000000000) r0' (by omega) (by omega)
  have hRR : co * spd ss f - co * spd ss m = R := by rw [hQ]; exact hR
  have H := Lib.hid h; have RR := Lib.hid r; have E1 := Lib.hid e1; have E2 := Lib.hid e2; have HP := Lib.hid hP; have HQ := Lib.hid hQ; have HR := Lib.hid hRR; have HT := Lib.hid hT
  clear h r e1 e2 hP hQ hR hRR hT hcn hcf qq
  by_cases hlt : (m : Int) < f
  · have hlb : decide ((m : Int) < f) = true := decide_eq_true hlt
    rw [if_pos hlt] at E1 E2
    go_enter Try.func58, Try.ntmps58
    go_wp2_with fail
    refine genS (S := fun w' => Below w.heap.size w w' ∧ w.heap.size + 1 < w'.heap.size ∧ (∀ o, w'.frozen? ⟨w.heap.size + 1, o, none⟩ = false) ∧ w'.cell? ⟨w.heap.size, 0, none⟩ = some (.slice (some ⟨bb1, o1, none⟩) ds.length c1) ∧ w'.cell? ⟨w.heap.size, 1, none⟩ = some (.slice A2 ss.length c2) ∧ w'.cell? ⟨w.heap.size, 2, none⟩ = some (.int .i64 src) ∧ w'.cell? ⟨w.heap.size, 3, none⟩ = some (.int .i64 co) ∧ w'.cell? ⟨w.heap.size, 4, none⟩ = some (.int .i64 si) ∧ w'.cell? ⟨w.heap.size, 5, none⟩ = some (.int .i64 hy) ∧ w'.cell? ⟨w.heap.size, 6, none⟩ = some (.int .i64 m) ∧ w'.cell? ⟨w.heap.size, 7, none⟩ = some (.int .i64 f) ∧ w'.cell? ⟨w.heap.size + 1, 0, none⟩ = some (.int .i64 0) ∧ w'.cell? ⟨w.heap.size + 1, 1, none⟩ = some (.int .i64 0)) ⟨by go_grown, by first | omega | (simp; done) | (simp; omega) | skip, fun o => by simp [*, go_sem], by simp [*, go_sem], by simp [*, go_sem], by simp [*, go_sem], by simp [*, go_sem], by simp [*, go_sem], by simp [*, go_sem], by simp [*, go_sem], by simp [*, go_sem], by simp [*, go_sem], by simp [*, go_sem]⟩ ?_
    rintro w3 ⟨B3, lt3_0, fz3, r3_0, r3_1, r3_2, r3_3, r3_4, r3_5, r3_6, r3_7, r3_8, r3_9⟩
    have zz1 : w.heap.size ≠ w.heap.size + 1 := by omega
    have z3 : w.heap.size ≤ w3.heap.size := B3.size
    have W1 : IntKind.i64.wrap (P - Q) = P - Q := IntWalk.i64_in _ (by omega)
    have W2 : IntKind.i64.wrap (T * (P - Q)) = T * (P - Q) := IntWalk.i64_in _ (by omega)
    go_region_held3 (fun w' => w'.cell? ⟨w.heap.size, 0, none⟩ = some (.slice (some ⟨bb1, o1, none⟩) ds.length c1) ∧ w'.cell? ⟨w.heap.size, 1, none⟩ = some (.slice A2 ss.length c2) ∧ w'.cell? ⟨w.heap.size, 2, none⟩ = some (.int .i64 src) ∧ w'.cell? ⟨w.heap.size, 3, none⟩ = some (.int .i64 co) ∧ w'.cell? ⟨w.heap.size, 4, none⟩ = some (.int .i64 si) ∧ w'.cell? ⟨w.heap.size, 5, none⟩ = some (.int .i64 hy) ∧ w'.cell? ⟨w.heap.size, 6, none⟩ = some (.int .i64 m) ∧ w'.cell? ⟨w.heap.size, 7, none⟩ = some (.int .i64 f)) (first | (go_keep; done) | (simp [*, go_sem]; done))
      (first
        | (go_at_call 96; refine (thick_any _ _ _ _ _ _ _ _ _ _ _ _ T _ (H.out.1.below (B := w.heap.size) (by first | exact Below.refl _ _ | (go_grown; done) | exact bdrewN (by go_grown) _) (Nat.le_refl _)) k0 k2 f0 (by omega) ll hdn hdf HT.out).mono ?_; rintro e w4 ⟨rfl, hb4⟩; obtain ⟨B4, hz4, q4, s4, t4, x4, y4, z4⟩ := bkeep (w := w) [w.heap.size, w.heap.size + 1] (by first | (simp; done) | (simp; omega)) (by first | (go_grown; done) | exact bdrewN (by go_grown) _) hb4; (try simp at hz4); clear hb4)
        | (go_at_call 97; refine (whole_eq _ _ _ _ _ _ _ _ _ _ P _ (H.out.2.below (B := w.heap.size) (by first | exact Below.refl _ _ | (go_grown; done) | exact bdrewN (by go_grown) _) (Nat.le_refl _)) sr0 sr1 ⟨p0, p1⟩ HP.out).mono ?_; rintro e w5 ⟨rfl, hb5⟩; obtain ⟨B5, hz5, q5, s5, t5, x5, y5, z5⟩ := bkeep (w := w) [w.heap.size, w.heap.size + 1] (by first | (simp; done) | (simp; omega)) (by first | (go_grown; done) | exact bdrewN (by go_grown) _) hb5; (try simp at hz5); clear hb5)
        | (go_at_call 98; refine (part_eq _ _ _ _ _ _ _ _ _ _ _ Q _ (H.out.2.below (B := w.heap.size) (by first | exact Below.refl _ _ | (go_grown; done) | exact bdrewN (by go_grown) _) (Nat.le_refl _)) k0 n1' ⟨q0, q1⟩ HQ.out).mono ?_; rintro e w6 ⟨rfl, hb6⟩; obtain ⟨B6, hz6, q6, s6, t6, x6, y6, z6⟩ := bkeep (w := w) [w.heap.size, w.heap.size + 1] (by first | (simp; done) | (simp; omega)) (by first | (go_grown; done) | exact bdrewN (by go_grown) _) hb6; (try simp at hz6); clear hb6))
    clear W1 W2
    go_wp2_with fail
    refine genS (S := fun w' => Below w.heap.size w w' ∧ w.heap.size + 1 < w'.heap.size ∧ (∀ o, w'.frozen? ⟨w.heap.size + 1, o, none⟩ = false) ∧ w'.cell? ⟨w.heap.size, 0, none⟩ = some (.slice (some ⟨bb1, o1, none⟩) ds.length c1) ∧ w'.cell? ⟨w.heap.size, 1, none⟩ = some (.slice A2 ss.length c2) ∧ w'.cell? ⟨w.heap.size, 2, none⟩ = some (.int .i64 src) ∧ w'.cell? ⟨w.heap.size, 3, none⟩ = some (.int .i64 co) ∧ w'.cell? ⟨w.heap.size, 4, none⟩ = some (.int .i64 si) ∧ w'.cell? ⟨w.heap.size, 5, none⟩ = some (.int .i64 hy) ∧ w'.cell? ⟨w.heap.size, 6, none⟩ = some (.int .i64 m) ∧ w'.cell? ⟨w.heap.size, 7, none⟩ = some (.int .i64 f) ∧ w'.cell? ⟨w.heap.size + 1, 0, none⟩ = some (.int .i64 0) ∧ w'.cell? ⟨w.heap.size + 1, 1, none⟩ = some (.int .i64 0)) ⟨(by first | with_reducible exact B6 | (go_grown; done) | with_reducible exact bdrewN B6 _ | (go_grown <;> first | with_reducible exact bdrewN B6 _ | with_reducible exact B6)), by first | omega | (simp; done) | (simp; omega) | (have := x6 _ (by first | assumption | simp); omega) | (have hx_ := x6 (w.heap.size + 1) (by simp); simp; omega), fun o => by simp [*, go_sem], by simp [*, go_sem], by simp [*, go_sem], by simp [*, go_sem], by simp [*, go_sem], by simp [*, go_sem], by simp [*, go_sem], by simp [*, go_sem], by simp [*, go_sem], by simp [*, go_sem], by simp [*, go_sem]⟩ ?_
    rintro w7 ⟨B7, lt7_0, fz7, r7_0, r7_1, r7_2, r7_3, r7_4, r7_5, r7_6, r7_7, r7_8, r7_9⟩
    clear q4 s4 t4 x4 y4 q5 s5 t5 x5 y5 q6 s6 t6 x6 y6
    have z7 : w.heap.size ≤ w7.heap.size := B7.size
    go_region_held3 (fun w' => w'.cell? ⟨w.heap.size, 0, none⟩ = some (.slice (some ⟨bb1, o1, none⟩) ds.length c1) ∧ w'.cell? ⟨w.heap.size, 1, none⟩ = some (.slice A2 ss.length c2) ∧ w'.cell? ⟨w.heap.size, 2, none⟩ = some (.int .i64 src) ∧ w'.cell? ⟨w.heap.size, 3, none⟩ = some (.int .i64 co) ∧ w'.cell? ⟨w.heap.size, 4, none⟩ = some (.int .i64 si) ∧ w'.cell? ⟨w.heap.size, 5, none⟩ = some (.int .i64 hy) ∧ w'.cell? ⟨w.heap.size, 6, none⟩ = some (.int .i64 m) ∧ w'.cell? ⟨w.heap.size, 7, none⟩ = some (.int .i64 f)) (first | (go_keep; done) | (simp [*, go_sem]; done))
      (first
        | (have hq_ := B8; (go_at_call 100; refine (rise_any _ _ _ _ _ ds _ _ _ _ _ _ _ R _ (H.out.2.below (B := w.heap.size) (by first | exact Below.refl _ _ | (go_grown; done) | exact bdrewN (by go_grown) _) (Nat.le_refl _)) RR.out k0 n1' f0 f1 HR.out).mono ?_; rintro e w9 ⟨rfl, hb9⟩; obtain ⟨B9, hz9, q9, s9, t9, x9, y9, z9⟩ := bkeep (w := w) [w.heap.size, w.heap.size + 1] (by first | (simp; done) | (simp; omega)) (by first | (go_grown; done) | exact bdrewN (by go_grown) _) hb9; (try simp at hz9); clear hb9))
        | (go_at_call 100; refine (rise_any _ _ _ _ _ ds _ _ _ _ _ _ _ R _ (H.out.2.below (B := w.heap.size) (by first | exact Below.refl _ _ | (go_grown; done) | exact bdrewN (by go_grown) _) (Nat.le_refl _)) RR.out k0 n1' f0 f1 HR.out).mono ?_; rintro e w8 ⟨rfl, hb8⟩; obtain ⟨B8, hz8, q8, s8, t8, x8, y8, z8⟩ := bkeep (w := w) [w.heap.size, w.heap.size + 1] (by first | (simp; done) | (simp; omega)) (by first | (go_grown; done) | exact bdrewN (by go_grown) _) hb8; (try simp at hz8); clear hb8)
        | (go_at_call 99; refine (implFloor_any _ _ _ r0' (by omega) (by omega) (by omega)).mono ?_; rintro e w' ⟨rfl, rfl⟩)
        | (go_at_call 101; refine (implCeil_any _ _ _ r0' (by omega) (by omega) (by omega)).mono ?_; rintro e w' ⟨rfl, rfl⟩))
    go_wp2
    refine bodyPost_ret (by simp [results, Try.results58, go_sem, *] <;> rfl) rfl ?_
    exact ⟨by rw [E1.out, E2.out]; try rw [Int.sub_neg], (by first | with_reducible exact B9 | (go_grown; done) | with_reducible exact bdrewN B9 _ | (go_grown <;> first | with_reducible exact bdrewN B9 _ | with_reducible exact B9))⟩
  · have hlb : decide ((m : Int) < f) = false := decide_eq_false hlt
    rw [if_neg hlt] at E1 E2
    go_enter Try.func58, Try.ntmps58
    go_wp2_with fail
    refine genS (S := fun w' => Below w.heap.size w w' ∧ w.heap.size + 1 < w'.heap.size ∧ (∀ o, w'.frozen? ⟨w.heap.size + 1, o, none⟩ = false) ∧ w'.cell? ⟨w.heap.size, 0, none⟩ = some (.slice (some ⟨bb1, o1, none⟩) ds.length c1) ∧ w'.cell? ⟨w.heap.size, 1, none⟩ = some (.slice A2 ss.length c2) ∧ w'.cell? ⟨w.heap.size, 2, none⟩ = some (.int .i64 src) ∧ w'.cell? ⟨w.heap.size, 3, none⟩ = some (.int .i64 co) ∧ w'.cell? ⟨w.heap.size, 4, none⟩ = some (.int .i64 si) ∧ w'.cell? ⟨w.heap.size, 5, none⟩ = some (.int .i64 hy) ∧ w'.cell? ⟨w.heap.size, 6, none⟩ = some (.int .i64 m) ∧ w'.cell? ⟨w.heap.size, 7, none⟩ = some (.int .i64 f) ∧ w'.cell? ⟨w.heap.size + 1, 0, none⟩ = some (.int .i64 0) ∧ w'.cell? ⟨w.heap.size + 1, 1, none⟩ = some (.int .i64 0)) ⟨by go_grown, by first | omega | (simp; done) | (simp; omega) | skip, fun o => by simp [*, go_sem], by simp [*, go_sem], by simp [*, go_sem], by simp [*, go_sem], by simp [*, go_sem], by simp [*, go_sem], by simp [*, go_sem], by simp [*, go_sem], by simp [*, go_sem], by simp [*, go_sem], by simp [*, go_sem]⟩ ?_
    rintro w3 ⟨B3, lt3_0, fz3, r3_0, r3_1, r3_2, r3_3, r3_4, r3_5, r3_6, r3_7, r3_8, r3_9⟩
    have zz1 : w.heap.size ≠ w.heap.size + 1 := by omega
    have z3 : w.heap.size ≤ w3.heap.size := B3.size
    have W1 : IntKind.i64.wrap (P - Q) = P - Q := IntWalk.i64_in _ (by omega)
    have W2 : IntKind.i64.wrap (T * (P - Q)) = T * (P - Q) := IntWalk.i64_in _ (by omega)
    go_region_held3 (fun w' => w'.cell? ⟨w.heap.size, 0, none⟩ = some (.slice (some ⟨bb1, o1, none⟩) ds.length c1) ∧ w'.cell? ⟨w.heap.size, 1, none⟩ = some (.slice A2 ss.length c2) ∧ w'.cell? ⟨w.heap.size, 2, none⟩ = some (.int .i64 src) ∧ w'.cell? ⟨w.heap.size, 3, none⟩ = some (.int .i64 co) ∧ w'.cell? ⟨w.heap.size, 4, none⟩ = some (.int .i64 si) ∧ w'.cell? ⟨w.heap.size, 5, none⟩ = some (.int .i64 hy) ∧ w'.cell? ⟨w.heap.size, 6, none⟩ = some (.int .i64 m) ∧ w'.cell? ⟨w.heap.size, 7, none⟩ = some (.int .i64 f)) (first | (go_keep; done) | (simp [*, go_sem]; done))
      (first
        | (go_at_call 96; refine (thick_any _ _ _ _ _ _ _ _ _ _ _ _ T _ (H.out.1.below (B := w.heap.size) (by first | exact Below.refl _ _ | (go_grown; done) | exact bdrewN (by go_grown) _) (Nat.le_refl _)) k0 k2 f0 (by omega) ll hdn hdf HT.out).mono ?_; rintro e w4 ⟨rfl, hb4⟩; obtain ⟨B4, hz4, q4, s4, t4, x4, y4, z4⟩ := bkeep (w := w) [w.heap.size, w.heap.size + 1] (by first | (simp; done) | (simp; omega)) (by first | (go_grown; done) | exact bdrewN (by go_grown) _) hb4; (try simp at hz4); clear hb4)
        | (go_at_call 97; refine (whole_eq _ _ _ _ _ _ _ _ _ _ P _ (H.out.2.below (B := w.heap.size) (by first | exact Below.refl _ _ | (go_grown; done) | exact bdrewN (by go_grown) _) (Nat.le_refl _)) sr0 sr1 ⟨p0, p1⟩ HP.out).mono ?_; rintro e w5 ⟨rfl, hb5⟩; obtain ⟨B5, hz5, q5, s5, t5, x5, y5, z5⟩ := bkeep (w := w) [w.heap.size, w.heap.size + 1] (by first | (simp; done) | (simp; omega)) (by first | (go_grown; done) | exact bdrewN (by go_grown) _) hb5; (try simp at hz5); clear hb5)
        | (go_at_call 98; refine (part_eq _ _ _ _ _ _ _ _ _ _ _ Q _ (H.out.2.below (B := w.heap.size) (by first | exact Below.refl _ _ | (go_grown; done) | exact bdrewN (by go_grown) _) (Nat.le_refl _)) k0 n1' ⟨q0, q1⟩ HQ.out).mono ?_; rintro e w6 ⟨rfl, hb6⟩; obtain ⟨B6, hz6, q6, s6, t6, x6, y6, z6⟩ := bkeep (w := w) [w.heap.size, w.heap.size + 1] (by first | (simp; done) | (simp; omega)) (by first | (go_grown; done) | exact bdrewN (by go_grown) _) hb6; (try simp at hz6); clear hb6))
    clear W1 W2
    go_wp2_with fail
    refine genS (S := fun w' => Below w.heap.size w w' ∧ w.heap.size + 1 < w'.heap.size ∧ (∀ o, w'.frozen? ⟨w.heap.size + 1, o, none⟩ = false) ∧ w'.cell? ⟨w.heap.size, 0, none⟩ = some (.slice (some ⟨bb1, o1, none⟩) ds.length c1) ∧ w'.cell? ⟨w.heap.size, 1, none⟩ = some (.slice A2 ss.length c2) ∧ w'.cell? ⟨w.heap.size, 2, none⟩ = some (.int .i64 src) ∧ w'.cell? ⟨w.heap.size, 3, none⟩ = some (.int .i64 co) ∧ w'.cell? ⟨w.heap.size, 4, none⟩ = some (.int .i64 si) ∧ w'.cell? ⟨w.heap.size, 5, none⟩ = some (.int .i64 hy) ∧ w'.cell? ⟨w.heap.size, 6, none⟩ = some (.int .i64 m) ∧ w'.cell? ⟨w.heap.size, 7, none⟩ = some (.int .i64 f) ∧ w'.cell? ⟨w.heap.size + 1, 0, none⟩ = some (.int .i64 0) ∧ w'.cell? ⟨w.heap.size + 1, 1, none⟩ = some (.int .i64 0)) ⟨(by first | with_reducible exact B6 | (go_grown; done) | with_reducible exact bdrewN B6 _ | (go_grown <;> first | with_reducible exact bdrewN B6 _ | with_reducible exact B6)), by first | omega | (simp; done) | (simp; omega) | (have := x6 _ (by first | assumption | simp); omega) | (have hx_ := x6 (w.heap.size + 1) (by simp); simp; omega), fun o => by simp [*, go_sem], by simp [*, go_sem], by simp [*, go_sem], by simp [*, go_sem], by simp [*, go_sem], by simp [*, go_sem], by simp [*, go_sem], by simp [*, go_sem], by simp [*, go_sem], by simp [*, go_sem], by simp [*, go_sem]⟩ ?_
    rintro w7 ⟨B7, lt7_0, fz7, r7_0, r7_1, r7_2, r7_3, r7_4, r7_5, r7_6, r7_7, r7_8, r7_9⟩
    clear q4 s4 t4 x4 y4 q5 s5 t5 x5 y5 q6 s6 t6 x6 y6
    have z7 : w.heap.size ≤ w7.heap.size := B7.size
    go_region_held3 (fun w' => w'.cell? ⟨w.heap.size, 0, none⟩ = some (.slice (some ⟨bb1, o1, none⟩) ds.length c1) ∧ w'.cell? ⟨w.heap.size, 1, none⟩ = some (.slice A2 ss.length c2) ∧ w'.cell? ⟨w.heap.size, 2, none⟩ = some (.int .i64 src) ∧ w'.cell? ⟨w.heap.size, 3, none⟩ = some (.int .i64 co) ∧ w'.cell? ⟨w.heap.size, 4, none⟩ = some (.int .i64 si) ∧ w'.cell? ⟨w.heap.size, 5, none⟩ = some (.int .i64 hy) ∧ w'.cell? ⟨w.heap.size, 6, none⟩ = some (.int .i64 m) ∧ w'.cell? ⟨w.heap.size, 7, none⟩ = some (.int .i64 f)) (first | (go_keep; done) | (simp [*, go_sem]; done))
      (first
        | (have hq_ := B8; (go_at_call 100; refine (rise_any _ _ _ _ _ ds _ _ _ _ _ _ _ R _ (H.out.2.below (B := w.heap.size) (by first | exact Below.refl _ _ | (go_grown; done) | exact bdrewN (by go_grown) _) (Nat.le_refl _)) RR.out k0 n1' f0 f1 HR.out).mono ?_; rintro e w9 ⟨rfl, hb9⟩; obtain ⟨B9, hz9, q9, s9, t9, x9, y9, z9⟩ := bkeep (w := w) [w.heap.size, w.heap.size + 1] (by first | (simp; done) | (simp; omega)) (by first | (go_grown; done) | exact bdrewN (by go_grown) _) hb9; (try simp at hz9); clear hb9))
        | (go_at_call 100; refine (rise_any _ _ _ _ _ ds _ _ _ _ _ _ _ R _ (H.out.2.below (B := w.heap.size) (by first | exact Below.refl _ _ | (go_grown; done) | exact bdrewN (by go_grown) _) (Nat.le_refl _)) RR.out k0 n1' f0 f1 HR.out).mono ?_; rintro e w8 ⟨rfl, hb8⟩; obtain ⟨B8, hz8, q8, s8, t8, x8, y8, z8⟩ := bkeep (w := w) [w.heap.size, w.heap.size + 1] (by first | (simp; done) | (simp; omega)) (by first | (go_grown; done) | exact bdrewN (by go_grown) _) hb8; (try simp at hz8); clear hb8)
        | (go_at_call 99; refine (implFloor_any _ _ _ r0' (by omega) (by omega) (by omega)).mono ?_; rintro e w' ⟨rfl, rfl⟩)
        | (go_at_call 101; refine (implCeil_any _ _ _ r0' (by omega) (by omega) (by omega)).mono ?_; rintro e w' ⟨rfl, rfl⟩))
    go_wp2
    refine bodyPost_ret (by simp [results, Try.results58, go_sem, *] <;> rfl) rfl ?_
    exact ⟨by rw [E1.out, E2.out]; try rw [Int.sub_neg], (by first | with_reducible exact B9 | (go_grown; done) | with_reducible exact bdrewN B9 _ | (go_grown <;> first | with_reducible exact bdrewN B9 _ | with_reducible exact B9))⟩
@[irreducible] def tLo (ds ss : List Int) (src co si hy l : Int) (ab : Bool) : Int := if vaE 2 ds ss src co si hy l ab = 0 then tdLo ds ss src co hy (nearK l ab) (farK l ab) else 0
@[irreducible] def tHi (ds ss : List Int) (src co si hy l : Int) (ab : Bool) : Int := if vaE 2 ds ss src co si hy l ab = 0 then tdHi ds ss src co hy (nearK l ab) (farK l ab) else 0
end Go.Proofs.Ytopggkomkfjbfaa
