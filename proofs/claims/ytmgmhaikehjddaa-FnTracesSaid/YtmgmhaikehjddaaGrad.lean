/- The gradient of a layer, by the program and by the reference. -/
import Derived.Test.YtmgmhaikehjddaaTurn
namespace Go.Proofs.Ytmgmhaikehjddaa
set_option linter.unusedSimpArgs false
set_option linter.unusedVariables false
open Go.RowKit

@[irreducible] def grN (ds ss : List Int) (k : Int) : Int := if knotE ds ss k 1 = 0 then ratN (spd ss (k + 1) - spd ss k) (spd ds (k + 1) - spd ds k) else 0
@[irreducible] def grD (ds ss : List Int) (k : Int) : Int := if knotE ds ss k 1 = 0 then ratD (spd ss (k + 1) - spd ss k) (spd ds (k + 1) - spd ds k) else 0
@[irreducible] def grC (ds ss : List Int) (k : Int) : Int := if knotE ds ss k 1 = 0 then ratC (spd ss (k + 1) - spd ss k) (spd ds (k + 1) - spd ds k) 2 else knotE ds ss k 1

structure GrOk (ds ss : List Int) (k : Nat) : Prop where
  l1 : ds.length ≤ 12
  l2 : ss.length ≤ ds.length
  l3 : ds.length ≤ ss.length
  k1 : k + 1 < ss.length
  d1 : 1 ≤ spd ds ((k : Int) + 1) - spd ds k
  d2 : spd ds ((k : Int) + 1) - spd ds k ≤ 1000000000
  s1 : -9000000000000000000 ≤ spd ss ((k : Int) + 1) - spd ss k
  s2 : spd ss ((k : Int) + 1) - spd ss k ≤ 9000000000000000000
  a0 : 0 ≤ spd ds k
  a1 : spd ds ((k : Int) + 1) ≤ 1000000
  b0 : 1300000 ≤ spd ss k
  b1 : spd ss k ≤ 1700000
  b2 : 1300000 ≤ spd ss ((k : Int) + 1)
  b3 : spd ss ((k : Int) + 1) ≤ 1700000
theorem grOk {ds ss : List Int} {k : Int} (h : knotE ds ss k 1 = 0) : ∃ m : Nat, k = m ∧ GrOk ds ss m := by
  obtain ⟨hv, k0, k1⟩ := knot_ok h
  obtain ⟨m, rfl⟩ := Int.eq_ofNat_of_zero_le k0
  obtain ⟨l0, l1, l2, l3⟩ := prof_len hv
  have p := profOk_of hv
  have a1 := p.dp m (by omega) (by omega)
  have a2 := p.dp ((m : Int) + 1) (by omega) (by omega)
  have a3 := p.up m (by omega) (by omega)
  have a4 := p.sp m (by omega) (by omega)
  have a5 := p.sp ((m : Int) + 1) (by omega) (by omega)
  exact ⟨m, rfl, ⟨l1, l2, l3, by omega, by omega, by omega, by omega, by omega, by omega, by omega, by omega, by omega, by omega, by omega⟩⟩

set_option maxHeartbeats 400000 in
theorem isLayer_any (A1 A2 : Option Addr) (c1 c2 n1 n2 : Nat) (k : Int) (w : World) (hn : n1 ≤ 9223372036854775807) :
    Calls Try.prog 103 #[profV A1 n1 c1 A2 n2 c2, .int .i64 k] w fun e w' => e = .returned (.bool (inB k 0 ((n1 : Int) - 1 - 1))) ∧ Below w.heap.size w w' := by
  go_enter Try.func103, Try.ntmps103
  go_wp2_with (first
    | (go_at_call 172; refine (last_any _ _ _ _ _ _ _ hn).mono ?_; rintro e w1 ⟨rfl, hb1⟩; obtain ⟨B1, hz1, q1, s1, t1, x1, y1, z1⟩ := bkeep (w := w) [w.heap.size] (by first | (simp; done) | (simp; omega)) (by first | (go_grown; done) | exact bdrewN (by go_grown) _) hb1; (try simp at hz1); clear hb1)
    | (go_at_call 171; refine (within_any _ _ _ _).mono ?_; rintro e w' ⟨rfl, rfl⟩))
  go_ret
  exact ⟨rfl, (by first | with_reducible exact B1 | (go_grown; done) | with_reducible exact bdrewN B1 _ | (go_grown <;> first | with_reducible exact bdrewN B1 _ | with_reducible exact B1))⟩
set_option maxHeartbeats 400000 in
theorem gradClosure_any (A1 A2 : Option Addr) (c1 c2 n1 n2 : Nat) (b o : Nat) (k : Int) (w : World) (hn : n1 ≤ 9223372036854775807) (hb : b < w.heap.size) (hc : w.cell? ⟨b, o, none⟩ = some (.int .i64 k)) :
    Calls Try.prog 102 #[profV A1 n1 c1 A2 n2 c2, .pointer (some ⟨b, o, none⟩)] w fun e w' => e = .returned (.bool (inB k 0 ((n1 : Int) - 1 - 1))) ∧ Below w.heap.size w w' := by
  go_enter Try.func102, Try.ntmps102
  go_wp2_with (go_at_call 103; refine (isLayer_any _ _ _ _ _ _ _ _ hn).mono ?_; rintro e w1 ⟨rfl, hb1⟩; obtain ⟨B1, hz1, q1, s1, t1, x1, y1, z1⟩ := bkeep (w := w) [w.heap.size] (by first | (simp; done) | (simp; omega)) (by first | (go_grown; done) | exact bdrewN (by go_grown) _) hb1; (try simp at hz1); clear hb1)
  go_ret
  exact ⟨rfl, (by first | with_reducible exact B1 | (go_grown; done) | with_reducible exact bdrewN B1 _ | (go_grown <;> first | with_reducible exact bdrewN B1 _ | with_reducible exact B1))⟩
set_option maxHeartbeats 2000000 in
theorem implGradientOf_any (A1 A2 : Option Addr) (c1 c2 : Nat) (ds ss : List Int) (k : Int) (w : World) (h : ProfAt w A1 c1 A2 c2 ds ss) :
    Calls Try.prog 24 #[profV A1 ds.length c1 A2 ss.length c2, .int .i64 k] w fun e w' => e = .returned (.tuple #[ratV (grN ds ss k) (grD ds ss k), .int .i64 (grC ds ss k)]) ∧ Below w.heap.size w w' := by
  have hn := Nat.le_trans h.1.1 h.1.2.1
  by_cases h0 : knotE ds ss k 1 = 0
  · have e1 : grN ds ss k = ratN (spd ss (k + 1) - spd ss k) (spd ds (k + 1) - spd ds k) := by unfold grN; rw [if_pos h0]
    have e2 : grD ds ss k = ratD (spd ss (k + 1) - spd ss k) (spd ds (k + 1) - spd ds k) := by unfold grD; rw [if_pos h0]
    have e3 : grC ds ss k = ratC (spd ss (k + 1) - spd ss k) (spd ds (k + 1) - spd ds k) 2 := by unfold grC; rw [if_pos h0]
    obtain ⟨hv, hk0, hk1⟩ := knot_ok h0
    have hin : inB k 0 ((ds.length : Int) - 1 - 1) = true := by simp [inB]; omega
    obtain ⟨m, rfl, g⟩ := grOk h0
    obtain ⟨l1, l2, l3, k1, d1, d2, s1, s2, a0, a1, b0, b1, b2, b3⟩ := g
    obtain ⟨bb1, o1, rfl, hb1, q1⟩ := h.1.spd (by omega)
    obtain ⟨bb2, o2, rfl, hb2, q2⟩ := h.2.spd (by omega)
    have x0 := q1 m (by omega); have x1' := q1 (m + 1) (by omega)
    have y0 := q2 m (by omega); have y1' := q2 (m + 1) (by omega)
    rw [show ((m + 1 : Nat) : Int) = (m : Int) + 1 by omega] at x1' y1'
    have k0 : (0 : Int) ≤ m := by omega
    have k2 : (m : Int) < ds.length := by omega
    have k3 : (m : Int) < ss.length := by omega
    have k4 : (0 : Int) ≤ (m : Int) + 1 := by omega
    have k5 : (m : Int) + 1 < ds.length := by omega
    have k6 : (m : Int) + 1 < ss.length := by omega
    have k7 : ((m : Int) + 1).toNat = m + 1 := by omega
    have H := Lib.hid h; have E1 := Lib.hid e1; have E2 := Lib.hid e2; have E3 := Lib.hid e3; clear h e1 e2 e3 h0 q1 q2
    go_enter Try.func24, Try.ntmps24
    go_wp2_with (first
      | (go_at_call 96; refine (implIsProfile_any _ _ _ _ _ _ _ (H.out.1.below (B := w.heap.size) (by first | exact Below.refl _ _ | (go_grown; done) | exact bdrewN (by go_grown) _) (Nat.le_refl _)) (H.out.2.below (B := w.heap.size) (by first | exact Below.refl _ _ | (go_grown; done) | exact bdrewN (by go_grown) _) (Nat.le_refl _))).mono ?_; rintro e w1 ⟨rfl, hb1⟩; obtain ⟨B1, hz1, q1, s1, t1, x1, y1, z1⟩ := bkeep (w := w) [w.heap.size, w.heap.size + 1, w.heap.size + 2, w.heap.size + 3] (by first | (simp; done) | (simp; omega)) (by first | (go_grown; done) | exact bdrewN (by go_grown) _) hb1; (try simp at hz1); clear hb1)
      | (go_at_call 102; refine (gradClosure_any _ _ _ _ _ _ _ _ m _ hn (by simp [*, go_sem]) (by simp [*, go_sem])).mono ?_; rintro e w2 ⟨rfl, hb2⟩; obtain ⟨B2, hz2, q2, s2, t2, x2, y2, z2⟩ := bkeep (w := w) [w.heap.size, w.heap.size + 1, w.heap.size + 2] (by first | (simp; done) | (simp; omega)) (by first | (go_grown; done) | exact bdrewN (by go_grown) _) hb2; (try simp at hz2); clear hb2)
      | go_in)
    refine genS (S := fun w' => Below w.heap.size w w' ∧ w.heap.size + 1 + 1 < w'.heap.size ∧ w'.cell? ⟨w.heap.size, 0, none⟩ = some (.slice (some ⟨bb1, o1, none⟩) ds.length c1) ∧ w'.cell? ⟨w.heap.size, 1, none⟩ = some (.slice (some ⟨bb2, o2, none⟩) ss.length c2) ∧ w'.cell? ⟨w.heap.size + 1, 0, none⟩ = some (.int .i64 m) ∧ w'.cell? ⟨w.heap.size + 1 + 1, 0, none⟩ = some (.int .i64 0) ∧ w'.cell? ⟨w.heap.size + 1 + 1, 1, none⟩ = some (.int .i64 0) ∧ (∀ o, w'.frozen? ⟨w.heap.size + 1 + 1, o, none⟩ = false)) ⟨(by first | with_reducible exact B2 | (go_grown; done) | with_reducible exact bdrewN B2 _ | (go_grown <;> first | with_reducible exact bdrewN B2 _ | with_reducible exact B2)), x2 _ (by simp), by simp [*, go_sem], by simp [*, go_sem], by simp [*, go_sem], by simp [*, go_sem], by simp [*, go_sem], fun o => by simp [*, go_sem]⟩ ?_
    rintro w5 ⟨B5, lt5, r0, r1, r2, r3, r4, r5⟩
    have xx0 := (B5.cell (p := ⟨bb1, o1 + m, none⟩) hb1).trans x0
    have xx1 := (B5.cell (p := ⟨bb1, o1 + (m + 1), none⟩) hb1).trans x1'
    have yy0 := (B5.cell (p := ⟨bb2, o2 + m, none⟩) hb2).trans y0
    have yy1 := (B5.cell (p := ⟨bb2, o2 + (m + 1), none⟩) hb2).trans y1'
    clear q1 s1 t1 x1 y1
    clear q2 s2 t2 x2 y2
    have z5 : w.heap.size ≤ w5.heap.size := B5.size
    have W0 : IntKind.i64.wrap ((m : Int) + 1) = (m : Int) + 1 := IntWalk.i64_in _ (by omega)
    have W1 : IntKind.i64.wrap (spd ss ((m : Int) + 1) - spd ss m) = spd ss ((m : Int) + 1) - spd ss m := IntWalk.i64_in _ (by omega)
    have W2 : IntKind.i64.wrap (spd ds ((m : Int) + 1) - spd ds m) = spd ds ((m : Int) + 1) - spd ds m := IntWalk.i64_in _ (by omega)
    go_region_held3 (fun w' => w'.cell? ⟨w.heap.size, 0, none⟩ = some (.slice (some ⟨bb1, o1, none⟩) ds.length c1) ∧ w'.cell? ⟨w.heap.size, 1, none⟩ = some (.slice (some ⟨bb2, o2, none⟩) ss.length c2) ∧ w'.cell? ⟨w.heap.size + 1, 0, none⟩ = some (.int .i64 m) ∧ w'.cell? ⟨bb1, o1 + m, none⟩ = some (.int .i64 (spd ds m)) ∧ w'.cell? ⟨bb1, o1 + (m + 1), none⟩ = some (.int .i64 (spd ds ((m : Int) + 1))) ∧ w'.cell? ⟨bb2, o2 + m, none⟩ = some (.int .i64 (spd ss m)) ∧ w'.cell? ⟨bb2, o2 + (m + 1), none⟩ = some (.int .i64 (spd ss ((m : Int) + 1)))) (first | (go_keep; done) | (simp [*, go_sem]; done))
      (first
        | (go_at_call 104; refine (implRatio_any _ _ _ _ d1 d2 s1 s2).mono ?_; rintro e w6 ⟨rfl, hb6⟩; obtain ⟨B6, hz6, q6, s6, t6, x6, y6, z6⟩ := bkeep (w := w) [w.heap.size, w.heap.size + 1, w.heap.size + 2] (by first | (simp; done) | (simp; omega)) (by first | (go_grown; done) | exact bdrewN (by go_grown) _) hb6; (try simp at hz6); clear hb6))
    clear W0 W1 W2
    go_wp2
    refine bodyPost_ret (by simp [results, Try.results24, go_sem, *] <;> rfl) rfl ?_
    exact ⟨by rw [E1.out, E2.out, E3.out], by first | exact (by first | with_reducible exact B6 | (go_grown; done) | with_reducible exact bdrewN B6 _ | (go_grown <;> first | with_reducible exact bdrewN B6 _ | with_reducible exact B6)) | exact bdrewN B6 _⟩
  · have e1 : grN ds ss k = 0 := by unfold grN; rw [if_neg h0]
    have e2 : grD ds ss k = 0 := by unfold grD; rw [if_neg h0]
    have e3 : grC ds ss k = knotE ds ss k 1 := by unfold grC; rw [if_neg h0]
    have H := Lib.hid h; have E1 := Lib.hid e1; have E2 := Lib.hid e2; have E3 := Lib.hid e3; clear h e1 e2 e3
    by_cases hp : profB ds ss = true
    · have hin : inB k 0 ((ds.length : Int) - 1 - 1) = false := by
        have := h0; unfold knotE at this; rw [if_pos hp] at this
        rcases Bool.eq_false_or_eq_true (inB k 0 ((ds.length : Int) - 1 - 1)) with g | g
        · rw [if_pos g] at this; omega
        · exact g
      have hk : knotE ds ss k 1 = 2 := by unfold knotE; rw [if_pos hp, hin]; rfl
      rw [hk] at E3
      clear h0 hk
      go_enter Try.func24, Try.ntmps24
      go_wp2_with (first
        | (go_at_call 96; refine (implIsProfile_any _ _ _ _ _ _ _ (H.out.1.below (B := w.heap.size) (by first | exact Below.refl _ _ | (go_grown; done) | exact bdrewN (by go_grown) _) (Nat.le_refl _)) (H.out.2.below (B := w.heap.size) (by first | exact Below.refl _ _ | (go_grown; done) | exact bdrewN (by go_grown) _) (Nat.le_refl _))).mono ?_; rintro e w1 ⟨rfl, hb1⟩; obtain ⟨B1, hz1, q1, s1, t1, x1, y1, z1⟩ := bkeep (w := w) [w.heap.size, w.heap.size + 1, w.heap.size + 2, w.heap.size + 3] (by first | (simp; done) | (simp; omega)) (by first | (go_grown; done) | exact bdrewN (by go_grown) _) hb1; (try simp at hz1); clear hb1)
        | (go_at_call 102; refine (gradClosure_any _ _ _ _ _ _ _ _ k _ hn (by simp [*, go_sem]) (by simp [*, go_sem])).mono ?_; rintro e w2 ⟨rfl, hb2⟩; obtain ⟨B2, hz2, q2, s2, t2, x2, y2, z2⟩ := bkeep (w := w) [w.heap.size, w.heap.size + 1, w.heap.size + 2] (by first | (simp; done) | (simp; omega)) (by first | (go_grown; done) | exact bdrewN (by go_grown) _) hb2; (try simp at hz2); clear hb2)
        | go_in)
      have c0 : w2.cell? ⟨w.heap.size + 1 + 1, 0, none⟩ = some (.int .i64 0) := by simp [*, go_sem]
      have c1 : w2.cell? ⟨w.heap.size + 1 + 1, 1, none⟩ = some (.int .i64 0) := by simp [*, go_sem]
      clear q1 q2
      refine bodyPost_ret (by simp [results, Try.results24, go_sem, *] <;> rfl) rfl ?_
      exact ⟨by rw [E1.out, E2.out, E3.out], (by first | with_reducible exact B2 | (go_grown; done) | with_reducible exact bdrewN B2 _ | (go_grown <;> first | with_reducible exact bdrewN B2 _ | with_reducible exact B2))⟩
    · have hp' : profB ds ss = false := by simpa using hp
      have hk : knotE ds ss k 1 = 1 := by unfold knotE; rw [if_neg hp]
      rw [hk] at E3
      clear h0 hk hp
      go_enter Try.func24, Try.ntmps24
      go_wp2_with (first
        | (go_at_call 96; refine (implIsProfile_any _ _ _ _ _ _ _ (H.out.1.below (B := w.heap.size) (by first | exact Below.refl _ _ | (go_grown; done) | exact bdrewN (by go_grown) _) (Nat.le_refl _)) (H.out.2.below (B := w.heap.size) (by first | exact Below.refl _ _ | (go_grown; done) | exact bdrewN (by go_grown) _) (Nat.le_refl _))).mono ?_; rintro e w1 ⟨rfl, hb1⟩; obtain ⟨B1, hz1, q1, s1, t1, x1, y1, z1⟩ := bkeep (w := w) [w.heap.size, w.heap.size + 1, w.heap.size + 2, w.heap.size + 3] (by first | (simp; done) | (simp; omega)) (by first | (go_grown; done) | exact bdrewN (by go_grown) _) hb1; (try simp at hz1); clear hb1)
        | go_in)
      have c0 : w1.cell? ⟨w.heap.size + 1 + 1, 0, none⟩ = some (.int .i64 0) := by simp [*, go_sem]
      have c1 : w1.cell? ⟨w.heap.size + 1 + 1, 1, none⟩ = some (.int .i64 0) := by simp [*, go_sem]
      clear q1
      refine bodyPost_ret (by simp [results, Try.results24, go_sem, *] <;> rfl) rfl ?_
      exact ⟨by rw [E1.out, E2.out, E3.out], (by first | with_reducible exact B1 | (go_grown; done) | with_reducible exact bdrewN B1 _ | (go_grown <;> first | with_reducible exact bdrewN B1 _ | with_reducible exact B1))⟩
set_option maxHeartbeats 2000000 in
theorem specGradientOf_any (A1 A2 : Option Addr) (c1 c2 : Nat) (ds ss : List Int) (k : Int) (w : World) (h : ProfAt w A1 c1 A2 c2 ds ss) :
    Calls Try.prog 25 #[profV A1 ds.length c1 A2 ss.length c2, .int .i64 k] w fun e w' => e = .returned (.tuple #[ratV (grN ds ss k) (grD ds ss k), .int .i64 (grC ds ss k)]) ∧ Below w.heap.size w w' := by
  have hn := Nat.le_trans h.1.1 h.1.2.1
  by_cases h0 : knotE ds ss k 1 = 0
  · have e1 : grN ds ss k = ratN (spd ss (k + 1) - spd ss k) (spd ds (k + 1) - spd ds k) := by unfold grN; rw [if_pos h0]
    have e2 : grD ds ss k = ratD (spd ss (k + 1) - spd ss k) (spd ds (k + 1) - spd ds k) := by unfold grD; rw [if_pos h0]
    have e3 : grC ds ss k = ratC (spd ss (k + 1) - spd ss k) (spd ds (k + 1) - spd ds k) 2 := by unfold grC; rw [if_pos h0]
    obtain ⟨hv, hk0, hk1⟩ := knot_ok h0
    have hin : inB k 0 ((ds.length : Int) - 1 - 1) = true := by simp [inB]; omega
    obtain ⟨m, rfl, g⟩ := grOk h0
    obtain ⟨l1, l2, l3, k1, d1, d2, s1, s2, a0, a1, b0, b1, b2, b3⟩ := g
    obtain ⟨bb1, o1, rfl, hb1, q1⟩ := h.1.spd (by omega)
    obtain ⟨bb2, o2, rfl, hb2, q2⟩ := h.2.spd (by omega)
    have x0 := q1 m (by omega); have x1' := q1 (m + 1) (by omega)
    have y0 := q2 m (by omega); have y1' := q2 (m + 1) (by omega)
    rw [show ((m + 1 : Nat) : Int) = (m : Int) + 1 by omega] at x1' y1'
    have k0 : (0 : Int) ≤ m := by omega
    have k2 : (m : Int) < ds.length := by omega
    have k3 : (m : Int) < ss.length := by omega
    have k4 : (0 : Int) ≤ (m : Int) + 1 := by omega
    have k5 : (m : Int) + 1 < ds.length := by omega
    have k6 : (m : Int) + 1 < ss.length := by omega
    have k7 : ((m : Int) + 1).toNat = m + 1 := by omega
    have H := Lib.hid h; have E1 := Lib.hid e1; have E2 := Lib.hid e2; have E3 := Lib.hid e3; have hE : (knotE ds ss m 1 != 0) = false := by rw [h0]; rfl
    clear h e1 e2 e3 h0 q1 q2
    go_enter Try.func25, Try.ntmps25
    go_wp2_with (go_at_call 105; refine (l04Knot_any _ _ _ _ _ _ _ _ _ ⟨(H.out.1.below (B := w.heap.size) (by first | exact Below.refl _ _ | (go_grown; done) | exact bdrewN (by go_grown) _) (Nat.le_refl _)), (H.out.2.below (B := w.heap.size) (by first | exact Below.refl _ _ | (go_grown; done) | exact bdrewN (by go_grown) _) (Nat.le_refl _))⟩ (by omega) (by omega)).mono ?_; rintro e w1 ⟨rfl, hb1⟩; obtain ⟨B1, hz1, q1, s1, t1, x1, y1, z1⟩ := bkeep (w := w) [w.heap.size, w.heap.size + 1] (by first | (simp; done) | (simp; omega)) (by first | (go_grown; done) | exact bdrewN (by go_grown) _) hb1; (try simp at hz1); clear hb1)
    refine genS (S := fun w' => Below w.heap.size w w' ∧ w.heap.size + 1 < w'.heap.size ∧ w'.cell? ⟨w.heap.size, 0, none⟩ = some (.slice (some ⟨bb1, o1, none⟩) ds.length c1) ∧ w'.cell? ⟨w.heap.size, 1, none⟩ = some (.slice (some ⟨bb2, o2, none⟩) ss.length c2) ∧ w'.cell? ⟨w.heap.size + 1, 0, none⟩ = some (.int .i64 0) ∧ w'.cell? ⟨w.heap.size + 1, 1, none⟩ = some (.int .i64 0) ∧ (∀ o, w'.frozen? ⟨w.heap.size + 1, o, none⟩ = false)) ⟨(by first | with_reducible exact B1 | (go_grown; done) | with_reducible exact bdrewN B1 _ | (go_grown <;> first | with_reducible exact bdrewN B1 _ | with_reducible exact B1)), x1 _ (by simp), by simp [*, go_sem], by simp [*, go_sem], by simp [*, go_sem], by simp [*, go_sem], fun o => by simp [*, go_sem]⟩ ?_
    rintro w5 ⟨B5, lt5, r0, r1, r2, r3, r4⟩
    have xx0 := (B5.cell (p := ⟨bb1, o1 + m, none⟩) hb1).trans x0
    have xx1 := (B5.cell (p := ⟨bb1, o1 + (m + 1), none⟩) hb1).trans x1'
    have yy0 := (B5.cell (p := ⟨bb2, o2 + m, none⟩) hb2).trans y0
    have yy1 := (B5.cell (p := ⟨bb2, o2 + (m + 1), none⟩) hb2).trans y1'
    clear q1 s1 t1 x1 y1
    have z5 : w.heap.size ≤ w5.heap.size := B5.size
    have W0 : IntKind.i64.wrap ((m : Int) + 1) = (m : Int) + 1 := IntWalk.i64_in _ (by omega)
    have W1 : IntKind.i64.wrap (spd ss ((m : Int) + 1) - spd ss m) = spd ss ((m : Int) + 1) - spd ss m := IntWalk.i64_in _ (by omega)
    have W2 : IntKind.i64.wrap (spd ds ((m : Int) + 1) - spd ds m) = spd ds ((m : Int) + 1) - spd ds m := IntWalk.i64_in _ (by omega)
    go_region_held3 (fun w' => w'.cell? ⟨w.heap.size, 0, none⟩ = some (.slice (some ⟨bb1, o1, none⟩) ds.length c1) ∧ w'.cell? ⟨w.heap.size, 1, none⟩ = some (.slice (some ⟨bb2, o2, none⟩) ss.length c2) ∧ w'.cell? ⟨bb1, o1 + m, none⟩ = some (.int .i64 (spd ds m)) ∧ w'.cell? ⟨bb1, o1 + (m + 1), none⟩ = some (.int .i64 (spd ds ((m : Int) + 1))) ∧ w'.cell? ⟨bb2, o2 + m, none⟩ = some (.int .i64 (spd ss m)) ∧ w'.cell? ⟨bb2, o2 + (m + 1), none⟩ = some (.int .i64 (spd ss ((m : Int) + 1)))) (first | (go_keep; done) | (simp [*, go_sem]; done))
      (first
        | (go_at_call 106; refine (l03Make_any _ _ _ d1 d2 s1 s2).mono ?_; rintro e w6 ⟨rfl, hb6⟩; obtain ⟨B6, hz6, q6, s6, t6, x6, y6, z6⟩ := bkeep (w := w) [w.heap.size, w.heap.size + 1] (by first | (simp; done) | (simp; omega)) (by first | (go_grown; done) | exact bdrewN (by go_grown) _) hb6; (try simp at hz6); clear hb6))
    clear W0 W1 W2
    go_wp2
    refine bodyPost_ret (by simp [results, Try.results25, go_sem, *] <;> rfl) rfl ?_
    exact ⟨by rw [E1.out, E2.out, E3.out], by first | exact (by first | with_reducible exact B6 | (go_grown; done) | with_reducible exact bdrewN B6 _ | (go_grown <;> first | with_reducible exact bdrewN B6 _ | with_reducible exact B6)) | exact bdrewN B6 _⟩
  · have e1 : grN ds ss k = 0 := by unfold grN; rw [if_neg h0]
    have e2 : grD ds ss k = 0 := by unfold grD; rw [if_neg h0]
    have e3 : grC ds ss k = knotE ds ss k 1 := by unfold grC; rw [if_neg h0]
    have hE : (knotE ds ss k 1 != 0) = true := by simpa using h0
    have H := Lib.hid h; have E1 := Lib.hid e1; have E2 := Lib.hid e2; have E3 := Lib.hid e3; clear h e1 e2 e3 h0
    go_enter Try.func25, Try.ntmps25
    go_wp2_with (go_at_call 105; refine (l04Knot_any _ _ _ _ _ _ _ _ _ ⟨(H.out.1.below (B := w.heap.size) (by first | exact Below.refl _ _ | (go_grown; done) | exact bdrewN (by go_grown) _) (Nat.le_refl _)), (H.out.2.below (B := w.heap.size) (by first | exact Below.refl _ _ | (go_grown; done) | exact bdrewN (by go_grown) _) (Nat.le_refl _))⟩ (by omega) (by omega)).mono ?_; rintro e w1 ⟨rfl, hb1⟩; obtain ⟨B1, hz1, q1, s1, t1, x1, y1, z1⟩ := bkeep (w := w) [w.heap.size, w.heap.size + 1] (by first | (simp; done) | (simp; omega)) (by first | (go_grown; done) | exact bdrewN (by go_grown) _) hb1; (try simp at hz1); clear hb1)
    have c0 : w1.cell? ⟨w.heap.size + 1, 0, none⟩ = some (.int .i64 0) := by simp [*, go_sem]
    have c1 : w1.cell? ⟨w.heap.size + 1, 1, none⟩ = some (.int .i64 0) := by simp [*, go_sem]
    clear q1
    refine bodyPost_ret (by simp [results, Try.results25, go_sem, *] <;> rfl) rfl ?_
    exact ⟨by rw [E1.out, E2.out, E3.out], (by first | with_reducible exact B1 | (go_grown; done) | with_reducible exact bdrewN B1 _ | (go_grown <;> first | with_reducible exact bdrewN B1 _ | with_reducible exact B1))⟩
end Go.Proofs.Ytmgmhaikehjddaa
