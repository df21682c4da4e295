/- A sounding below the datum, by the program and by the reference. -/
import Derived.Test.YtjabldjffpjkeaaLev2
import Derived.Test.YtjabldjffpjkeaaSnd0
import Derived.IntWalk
import Derived.Deep.RegionHeld3
namespace Go.Proofs.Ytjabldjffpjkeaa
set_option linter.unusedSimpArgs false
set_option linter.unusedVariables false
open Go.RowKit

@[irreducible] def reD (d e : Int) (ts ls : List Int) (t : Int) : Int := (d - e - lvHi ts ls t + (d + e - lvLo ts ls t)) / 2
@[irreducible] def reE (d e : Int) (ts ls : List Int) (t : Int) : Int := -(-(d + e - lvLo ts ls t - (d - e - lvHi ts ls t)) / 2)
@[irreducible] def reC (x y d e : Int) (ts ls : List Int) (t : Int) : Int :=
  if sndB x y d e then (if lvE ts ls t = 0 then (if sndB x y (reD d e ts ls t) (reE d e ts ls t) then 0 else 3) else lvE ts ls t) else 1
@[irreducible] def reV (x y d e : Int) (ts ls : List Int) (t v : Int) : Int := if reC x y d e ts ls t = 0 then v else 0
theorem re_bad {x y d e : Int} {ts ls : List Int} {t : Int} (h : sndB x y d e = false) : reC x y d e ts ls t = 1 ∧ ∀ v, reV x y d e ts ls t v = 0 := by
  have e1 : reC x y d e ts ls t = 1 := by unfold reC; simp [h]
  refine ⟨e1, fun v => ?_⟩
  unfold reV; rw [e1]; rfl
theorem re_lev {x y d e : Int} {ts ls : List Int} {t : Int} (h : sndB x y d e = true) (h1 : lvE ts ls t ≠ 0) : reC x y d e ts ls t = lvE ts ls t ∧ ∀ v, reV x y d e ts ls t v = 0 := by
  have e1 : reC x y d e ts ls t = lvE ts ls t := by unfold reC; rw [if_pos h, if_neg h1]
  refine ⟨e1, fun v => ?_⟩
  unfold reV; rw [e1, if_neg h1]
theorem re_lim {x y d e : Int} {ts ls : List Int} {t : Int} (h : sndB x y d e = true) (h1 : lvE ts ls t = 0) (h2 : sndB x y (reD d e ts ls t) (reE d e ts ls t) = false) : reC x y d e ts ls t = 3 ∧ ∀ v, reV x y d e ts ls t v = 0 := by
  have e1 : reC x y d e ts ls t = 3 := by unfold reC; rw [if_pos h, if_pos h1, if_neg (by rw [h2]; simp)]
  refine ⟨e1, fun v => ?_⟩
  unfold reV; rw [e1]; rfl
theorem re_ok {x y d e : Int} {ts ls : List Int} {t : Int} (h : sndB x y d e = true) (h1 : lvE ts ls t = 0) (h2 : sndB x y (reD d e ts ls t) (reE d e ts ls t) = true) : reC x y d e ts ls t = 0 ∧ ∀ v, reV x y d e ts ls t v = v := by
  have e1 : reC x y d e ts ls t = 0 := by unfold reC; rw [if_pos h, if_pos h1, if_pos h2]
  refine ⟨e1, fun v => ?_⟩
  unfold reV; rw [e1]; rfl
/-- bounds of the level at a time -/
theorem lv_bd {ts ls : List Int} {x : Int} (h : gauB ts ls = true) : -5000000000 ≤ lvL ts ls x ∧ lvL ts ls x ≤ 5000000000 ∧ -5000000000 ≤ lvH ts ls x ∧ lvH ts ls x ≤ 5000000000 := by
  have p := gauOk_of h
  have hb := bs_at p x
  obtain ⟨i, hi⟩ : ∃ i, bsI ts x = i := ⟨_, rfl⟩
  rw [hi] at hb
  by_cases hin : inB x 0 1000000 = true
  · by_cases hf : i < ts.length ∧ spd ts i = x
    · obtain ⟨-, e1, e2⟩ := lv_found (ls := ls) hin hi hf.1 hf.2
      have := p.v i hf.1
      omega
    · by_cases hz : i = 0 ∨ i = ts.length
      · obtain ⟨-, e1, e2⟩ := lv_edge (ls := ls) hin hi hf hz
        omega
      · have := hb.le
        obtain ⟨k, rfl⟩ : ∃ k, i = k + 1 := ⟨i - 1, by omega⟩
        have hlt : k + 1 < ts.length := by omega
        have hne : spd ts ((k : Int) + 1) ≠ x := fun g => hf ⟨hlt, by rw [show ((k + 1 : Nat) : Int) = (k : Int) + 1 by omega]; exact g⟩
        obtain ⟨-, e1, e2⟩ := lv_inner (ls := ls) hin hi hlt hne
        obtain ⟨g1, g2, g3, g4, g5, g6, g7, g8, g9, g10, g11⟩ := lvOk p hi hlt hne
        obtain ⟨f1, f2⟩ := div_bd (b := spd ts ((k : Int) + 1) - spd ts k) (by omega) g10 g11
        obtain ⟨f3, f4⟩ := div_bd (a := -((spd ls ((k : Int) + 1) - spd ls k) * (x - spd ts k))) (b := spd ts ((k : Int) + 1) - spd ts k) (M := 4000000000) (by omega) (by omega) (by omega)
        omega
  · obtain ⟨-, e1, e2⟩ := lv_out (ts := ts) (ls := ls) hin
    omega
theorem sndB_bd4 {a b c d : Int} (h : sndB a b c d = true) : 0 ≤ a ∧ a ≤ 10000 ∧ 0 ≤ b ∧ b ≤ 10000 := by
  simp only [sndB, Bool.and_eq_true] at h
  have h1 := inB_bd h.1.1.1
  have h2 := inB_bd h.1.1.2
  omega

set_option maxHeartbeats 4000000 in
theorem implReduce_any (x y d e : Int) (A1 A2 : Option Addr) (c1 c2 : Nat) (ts ls : List Int) (t : Int) (w : World) (h : ProfAt w A1 c1 A2 c2 ts ls) :
    Calls Try.prog 8 #[sndV x y d e, profV A1 ts.length c1 A2 ls.length c2, .int .i64 t] w fun e' w' => e' = .returned (.tuple #[sndV (reV x y d e ts ls t x) (reV x y d e ts ls t y) (reV x y d e ts ls t (reD d e ts ls t)) (reV x y d e ts ls t (reE d e ts ls t)), .int .i64 (reC x y d e ts ls t)]) ∧ Below w.heap.size w w' := by
  by_cases hs : sndB x y d e = true
  · obtain ⟨D1, D2, D3, D4⟩ := sndB_bd hs
    by_cases hp : gauB ts ls = true
    · have p := gauOk_of hp
      obtain ⟨q0, q1', q2'⟩ := lv_good (x := t) hp
      obtain ⟨b1, b2, b3, b4⟩ := lv_bd (x := t) hp
      by_cases hl : lvE ts ls t = 0
      · have hl' : (lvC ts t != 0) = false := by rw [← q0]; rw [hl]; rfl
        have eD : reD d e ts ls t = (d - e - lvH ts ls t + (d + e - lvL ts ls t)) / 2 := by unfold reD; rw [q1', q2']
        have eE : reE d e ts ls t = -(-(d + e - lvL ts ls t - (d - e - lvH ts ls t)) / 2) := by unfold reE; rw [q1', q2']
        have kD := div_bd (a := d - e - lvH ts ls t + (d + e - lvL ts ls t)) (b := 2) (M := 20000000000) (by omega) (by omega) (by omega)
        have kE := div_bd (a := -(d + e - lvL ts ls t - (d - e - lvH ts ls t))) (b := 2) (M := 20000000000) (by omega) (by omega) (by omega)
        by_cases hr : sndB x y (reD d e ts ls t) (reE d e ts ls t) = true
        · obtain ⟨e0, e1⟩ := re_ok hs hl hr
          rw [eD, eE] at hr
          have H := Lib.hid h; have E0 := Lib.hid e0; have E1 := Lib.hid e1; have PP := Lib.hid p; have ED := Lib.hid eD; have EE := Lib.hid eE
          clear h e0 e1 p q0 q1' q2' hl eD eE
          obtain ⟨kD1, kD2⟩ := kD; obtain ⟨kE1, kE2⟩ := kE
          go_enter Try.func8, Try.ntmps8
          go_wp2_with (first
            | (go_at_call 34; refine (isSounding_any _ _ _ _ _).mono ?_; rintro e w1 ⟨rfl, hb1⟩; obtain ⟨B1, hz1, q1, s1, t1, x1, y1, z1⟩ := bkeep (w := w) [w.heap.size, w.heap.size + 1, w.heap.size + 2] (by first | (simp; done) | (simp; omega)) (by first | (go_grown; done) | exact bdrewN (by go_grown) _) hb1; (try simp at hz1); clear hb1)
            | (go_at_call 24; refine (implIsGauge_any _ _ _ _ _ _ _ ⟨(H.out.1.below (B := w.heap.size) (by first | exact Below.refl _ _ | (go_grown; done) | exact bdrewN (by go_grown) _) (Nat.le_refl _)), (H.out.2.below (B := w.heap.size) (by first | exact Below.refl _ _ | (go_grown; done) | exact bdrewN (by go_grown) _) (Nat.le_refl _))⟩).mono ?_; rintro e w2 ⟨rfl, hb2⟩; obtain ⟨B2, hz2, q2, s2, t2, x2, y2, z2⟩ := bkeep (w := w) [w.heap.size, w.heap.size + 1, w.heap.size + 2] (by first | (simp; done) | (simp; omega)) (by first | (go_grown; done) | exact bdrewN (by go_grown) _) hb2; (try simp at hz2); clear hb2)
            | (go_at_call 35; refine (levelAt_any _ _ _ _ _ _ _ _ ⟨(H.out.1.below (B := w.heap.size) (by first | exact Below.refl _ _ | (go_grown; done) | exact bdrewN (by go_grown) _) (Nat.le_refl _)), (H.out.2.below (B := w.heap.size) (by first | exact Below.refl _ _ | (go_grown; done) | exact bdrewN (by go_grown) _) (Nat.le_refl _))⟩ PP.out).mono ?_; rintro e w3 ⟨rfl, hb3⟩; obtain ⟨B3, hz3, q3, s3, t3, x3, y3, z3⟩ := bkeep (w := w) [w.heap.size, w.heap.size + 1, w.heap.size + 2] (by first | (simp; done) | (simp; omega)) (by first | (go_grown; done) | exact bdrewN (by go_grown) _) hb3; (try simp at hz3); clear hb3)
            | (go_at_call 36; refine (bounds_any _ _ _ _ _ D1 D2 D3 D4).mono ?_; rintro e w4 ⟨rfl, hb4⟩; obtain ⟨B4, hz4, q4, s4, t4, x4, y4, z4⟩ := bkeep (w := w) [w.heap.size, w.heap.size + 1, w.heap.size + 2, w3.heap.size] (by first | (simp; done) | (simp; omega)) (by first | (go_grown; done) | exact bdrewN (by go_grown) _) hb4; (try simp at hz4); clear hb4))
          refine genS (S := fun w' => Below (w.heap.size) w w' ∧ w.heap.size + 1 + 1 < w'.heap.size ∧ w3.heap.size < w'.heap.size ∧ w4.heap.size < w'.heap.size ∧ w'.cell? ⟨w.heap.size, 0, none⟩ = some (.int .i64 x) ∧ w'.cell? ⟨w.heap.size, 1, none⟩ = some (.int .i64 y) ∧ w'.cell? ⟨w.heap.size, 2, none⟩ = some (.int .i64 d) ∧ w'.cell? ⟨w.heap.size, 3, none⟩ = some (.int .i64 e) ∧ w'.cell? ⟨w.heap.size + 1 + 1, 0, none⟩ = some (.int .i64 0) ∧ w'.cell? ⟨w.heap.size + 1 + 1, 1, none⟩ = some (.int .i64 0) ∧ w'.cell? ⟨w.heap.size + 1 + 1, 2, none⟩ = some (.int .i64 0) ∧ w'.cell? ⟨w.heap.size + 1 + 1, 3, none⟩ = some (.int .i64 0) ∧ w'.cell? ⟨w3.heap.size, 0, none⟩ = some (.int .i64 (lvL ts ls t)) ∧ w'.cell? ⟨w3.heap.size, 1, none⟩ = some (.int .i64 (lvH ts ls t)) ∧ w'.cell? ⟨w4.heap.size, 0, none⟩ = some (.int .i64 (d - e)) ∧ w'.cell? ⟨w4.heap.size, 1, none⟩ = some (.int .i64 (d + e)) ∧ (∀ o, w'.frozen? ⟨w.heap.size + 1 + 1, o, none⟩ = false)) ⟨(by first | with_reducible exact B4 | (go_grown; done) | with_reducible exact bdrewN B4 _ | (go_grown <;> first | with_reducible exact bdrewN B4 _ | with_reducible exact B4)), by first | omega | (simp; done) | (simp; omega), by first | omega | (simp; done) | (simp; omega), by first | omega | (simp; done) | (simp; omega), by simp [*, go_sem], by simp [*, go_sem], by simp [*, go_sem], by simp [*, go_sem], by simp [*, go_sem], by simp [*, go_sem], by simp [*, go_sem], by simp [*, go_sem], by simp [*, go_sem], by simp [*, go_sem], by simp [*, go_sem], by simp [*, go_sem], fun o => by simp [*, go_sem]⟩ ?_
          clear q1 s1 t1 x1 y1 q3 s3 t3 x3 y3 q4 s4 t4 x4 y4 q2 s2 t2 x2 y2
          rintro w5 ⟨B5, lt5_0, lt5_1, lt5_2, c5_0, c5_1, c5_2, c5_3, c5_4, c5_5, c5_6, c5_7, c5_8, c5_9, c5_10, c5_11, fz5_0⟩
          have z5 : w.heap.size ≤ w5.heap.size := B5.size
          have W1 : IntKind.i64.wrap (d - e - lvH ts ls t) = d - e - lvH ts ls t := IntWalk.i64_in _ (by omega)
          have W2 : IntKind.i64.wrap (d + e - lvL ts ls t) = d + e - lvL ts ls t := IntWalk.i64_in _ (by omega)
          go_quiet (fail)
          clear W1 W2
          go_wp2_with fail
          have W3 : IntKind.i64.wrap (d - e - lvH ts ls t + (d + e - lvL ts ls t)) = d - e - lvH ts ls t + (d + e - lvL ts ls t) := IntWalk.i64_in _ (by omega)
          have W4 : IntKind.i64.wrap (d + e - lvL ts ls t - (d - e - lvH ts ls t)) = d + e - lvL ts ls t - (d - e - lvH ts ls t) := IntWalk.i64_in _ (by omega)
          obtain ⟨F1, F2, F3, F4⟩ : -9000000000000000000 ≤ d - e - lvH ts ls t + (d + e - lvL ts ls t) ∧ d - e - lvH ts ls t + (d + e - lvL ts ls t) ≤ 9000000000000000000 ∧ -9000000000000000000 ≤ d + e - lvL ts ls t - (d - e - lvH ts ls t) ∧ d + e - lvL ts ls t - (d - e - lvH ts ls t) ≤ 9000000000000000000 := by omega
          refine genS (S := fun w' => Below (w.heap.size) w w' ∧ w.heap.size + 1 + 1 < w'.heap.size ∧ w'.cell? ⟨w.heap.size, 0, none⟩ = some (.int .i64 x) ∧ w'.cell? ⟨w.heap.size, 1, none⟩ = some (.int .i64 y) ∧ w'.cell? ⟨w.heap.size, 2, none⟩ = some (.int .i64 d) ∧ w'.cell? ⟨w.heap.size, 3, none⟩ = some (.int .i64 e) ∧ w'.cell? ⟨w.heap.size + 1 + 1, 0, none⟩ = some (.int .i64 0) ∧ w'.cell? ⟨w.heap.size + 1 + 1, 1, none⟩ = some (.int .i64 0) ∧ w'.cell? ⟨w.heap.size + 1 + 1, 2, none⟩ = some (.int .i64 0) ∧ w'.cell? ⟨w.heap.size + 1 + 1, 3, none⟩ = some (.int .i64 0) ∧ (∀ o, w'.frozen? ⟨w.heap.size + 1 + 1, o, none⟩ = false)) ⟨bdrewN B5 _, by simpa using lt5_0, by simp [*, go_sem], by simp [*, go_sem], by simp [*, go_sem], by simp [*, go_sem], by simp [*, go_sem], by simp [*, go_sem], by simp [*, go_sem], by simp [*, go_sem], fun o => by simp [*, go_sem]⟩ ?_
          rintro w7 ⟨B7, lt7_0, c7_0, c7_1, c7_2, c7_3, c7_4, c7_5, c7_6, c7_7, fz7_0⟩
          have z7 : w.heap.size ≤ w7.heap.size := B7.size
          clear c5_0 c5_1 c5_2 c5_3 c5_4 c5_5 c5_6 c5_7 c5_8 c5_9 c5_10 c5_11 fz5_0 lt5_0 lt5_1 lt5_2 B5
          go_region_held3 (fun w' => w'.cell? ⟨w.heap.size, 0, none⟩ = some (.int .i64 x) ∧ w'.cell? ⟨w.heap.size, 1, none⟩ = some (.int .i64 y)) (first | (go_keep; done) | (simp [*, go_sem]; done))
            (first
              | (go_at_call 37; refine (implFloor_any _ _ _ (by decide) (by decide) F1 F2).mono ?_; rintro e w' ⟨rfl, rfl⟩)
              | (go_at_call 38; refine (implCeil_any _ _ _ (by decide) (by decide) F3 F4).mono ?_; rintro e w' ⟨rfl, rfl⟩))
          all_goals clear W3 W4
          all_goals go_wp2_with (go_at_call 34; refine (isSounding_any _ _ _ _ _).mono ?_; rintro e w6 ⟨rfl, hb6⟩; obtain ⟨B6, hz6, q6, s6, t6, x6, y6, z6⟩ := bkeep (w := w) [w.heap.size, w.heap.size + 1, w.heap.size + 2, w7.heap.size] (by first | (simp; done) | (simp; omega)) (by first | (go_grown; done) | exact bdrewN (by go_grown) _) hb6; (try simp at hz6); clear hb6)
          all_goals refine bodyPost_ret (by simp [results, Try.results8, go_sem, *] <;> rfl) rfl ?_
          all_goals exact ⟨by rw [E0.out, E1.out, E1.out, E1.out, E1.out, ED.out, EE.out], by first | exact (by first | with_reducible exact B6 | (go_grown; done) | with_reducible exact bdrewN B6 _ | (go_grown <;> first | with_reducible exact bdrewN B6 _ | with_reducible exact B6)) | exact bdrewN B6 _⟩
        · have hr' : sndB x y (reD d e ts ls t) (reE d e ts ls t) = false := by simpa using hr
          obtain ⟨e0, e1⟩ := re_lim hs hl hr'
          clear hr
          rw [eD, eE] at hr'
          have H := Lib.hid h; have E0 := Lib.hid e0; have E1 := Lib.hid e1; have PP := Lib.hid p; have ED := Lib.hid eD; have EE := Lib.hid eE
          clear h e0 e1 p q0 q1' q2' hl eD eE
          obtain ⟨kD1, kD2⟩ := kD; obtain ⟨kE1, kE2⟩ := kE
          go_enter Try.func8, Try.ntmps8
          go_wp2_with (first
            | (go_at_call 34; refine (isSounding_any _ _ _ _ _).mono ?_; rintro e w1 ⟨rfl, hb1⟩; obtain ⟨B1, hz1, q1, s1, t1, x1, y1, z1⟩ := bkeep (w := w) [w.heap.size, w.heap.size + 1, w.heap.size + 2] (by first | (simp; done) | (simp; omega)) (by first | (go_grown; done) | exact bdrewN (by go_grown) _) hb1; (try simp at hz1); clear hb1)
            | (go_at_call 24; refine (implIsGauge_any _ _ _ _ _ _ _ ⟨(H.out.1.below (B := w.heap.size) (by first | exact Below.refl _ _ | (go_grown; done) | exact bdrewN (by go_grown) _) (Nat.le_refl _)), (H.out.2.below (B := w.heap.size) (by first | exact Below.refl _ _ | (go_grown; done) | exact bdrewN (by go_grown) _) (Nat.le_refl _))⟩).mono ?_; rintro e w2 ⟨rfl, hb2⟩; obtain ⟨B2, hz2, q2, s2, t2, x2, y2, z2⟩ := bkeep (w := w) [w.heap.size, w.heap.size + 1, w.heap.size + 2] (by first | (simp; done) | (simp; omega)) (by first | (go_grown; done) | exact bdrewN (by go_grown) _) hb2; (try simp at hz2); clear hb2)
            | (go_at_call 35; refine (levelAt_any _ _ _ _ _ _ _ _ ⟨(H.out.1.below (B := w.heap.size) (by first | exact Below.refl _ _ | (go_grown; done) | exact bdrewN (by go_grown) _) (Nat.le_refl _)), (H.out.2.below (B := w.heap.size) (by first | exact Below.refl _ _ | (go_grown; done) | exact bdrewN (by go_grown) _) (Nat.le_refl _))⟩ PP.out).mono ?_; rintro e w3 ⟨rfl, hb3⟩; obtain ⟨B3, hz3, q3, s3, t3, x3, y3, z3⟩ := bkeep (w := w) [w.heap.size, w.heap.size + 1, w.heap.size + 2] (by first | (simp; done) | (simp; omega)) (by first | (go_grown; done) | exact bdrewN (by go_grown) _) hb3; (try simp at hz3); clear hb3)
            | (go_at_call 36; refine (bounds_any _ _ _ _ _ D1 D2 D3 D4).mono ?_; rintro e w4 ⟨rfl, hb4⟩; obtain ⟨B4, hz4, q4, s4, t4, x4, y4, z4⟩ := bkeep (w := w) [w.heap.size, w.heap.size + 1, w.heap.size + 2, w3.heap.size] (by first | (simp; done) | (simp; omega)) (by first | (go_grown; done) | exact bdrewN (by go_grown) _) hb4; (try simp at hz4); clear hb4))
          refine genS (S := fun w' => Below (w.heap.size) w w' ∧ w.heap.size + 1 + 1 < w'.heap.size ∧ w3.heap.size < w'.heap.size ∧ w4.heap.size < w'.heap.size ∧ w'.cell? ⟨w.heap.size, 0, none⟩ = some (.int .i64 x) ∧ w'.cell? ⟨w.heap.size, 1, none⟩ = some (.int .i64 y) ∧ w'.cell? ⟨w.heap.size, 2, none⟩ = some (.int .i64 d) ∧ w'.cell? ⟨w.heap.size, 3, none⟩ = some (.int .i64 e) ∧ w'.cell? ⟨w.heap.size + 1 + 1, 0, none⟩ = some (.int .i64 0) ∧ w'.cell? ⟨w.heap.size + 1 + 1, 1, none⟩ = some (.int .i64 0) ∧ w'.cell? ⟨w.heap.size + 1 + 1, 2, none⟩ = some (.int .i64 0) ∧ w'.cell? ⟨w.heap.size + 1 + 1, 3, none⟩ = some (.int .i64 0) ∧ w'.cell? ⟨w3.heap.size, 0, none⟩ = some (.int .i64 (lvL ts ls t)) ∧ w'.cell? ⟨w3.heap.size, 1, none⟩ = some (.int .i64 (lvH ts ls t)) ∧ w'.cell? ⟨w4.heap.size, 0, none⟩ = some (.int .i64 (d - e)) ∧ w'.cell? ⟨w4.heap.size, 1, none⟩ = some (.int .i64 (d + e)) ∧ (∀ o, w'.frozen? ⟨w.heap.size + 1 + 1, o, none⟩ = false)) ⟨(by first | with_reducible exact B4 | (go_grown; done) | with_reducible exact bdrewN B4 _ | (go_grown <;> first | with_reducible exact bdrewN B4 _ | with_reducible exact B4)), by first | omega | (simp; done) | (simp; omega), by first | omega | (simp; done) | (simp; omega), by first | omega | (simp; done) | (simp; omega), by simp [*, go_sem], by simp [*, go_sem], by simp [*, go_sem], by simp [*, go_sem], by simp [*, go_sem], by simp [*, go_sem], by simp [*, go_sem], by simp [*, go_sem], by simp [*, go_sem], by simp [*, go_sem], by simp [*, go_sem], by simp [*, go_sem], fun o => by simp [*, go_sem]⟩ ?_
          clear q1 s1 t1 x1 y1 q3 s3 t3 x3 y3 q4 s4 t4 x4 y4 q2 s2 t2 x2 y2
          rintro w5 ⟨B5, lt5_0, lt5_1, lt5_2, c5_0, c5_1, c5_2, c5_3, c5_4, c5_5, c5_6, c5_7, c5_8, c5_9, c5_10, c5_11, fz5_0⟩
          have z5 : w.heap.size ≤ w5.heap.size := B5.size
          have W1 : IntKind.i64.wrap (d - e - lvH ts ls t) = d - e - lvH ts ls t := IntWalk.i64_in _ (by omega)
          have W2 : IntKind.i64.wrap (d + e - lvL ts ls t) = d + e - lvL ts ls t := IntWalk.i64_in _ (by omega)
          go_quiet (fail)
          clear W1 W2
          go_wp2_with fail
          have W3 : IntKind.i64.wrap (d - e - lvH ts ls t + (d + e - lvL ts ls t)) = d - e - lvH ts ls t + (d + e - lvL ts ls t) := IntWalk.i64_in _ (by omega)
          have W4 : IntKind.i64.wrap (d + e - lvL ts ls t - (d - e - lvH ts ls t)) = d + e - lvL ts ls t - (d - e - lvH ts ls t) := IntWalk.i64_in _ (by omega)
          obtain ⟨F1, F2, F3, F4⟩ : -9000000000000000000 ≤ d - e - lvH ts ls t + (d + e - lvL ts ls t) ∧ d - e - lvH ts ls t + (d + e - lvL ts ls t) ≤ 9000000000000000000 ∧ -9000000000000000000 ≤ d + e - lvL ts ls t - (d - e - lvH ts ls t) ∧ d + e - lvL ts ls t - (d - e - lvH ts ls t) ≤ 9000000000000000000 := by omega
          refine genS (S := fun w' => Below (w.heap.size) w w' ∧ w.heap.size + 1 + 1 < w'.heap.size ∧ w'.cell? ⟨w.heap.size, 0, none⟩ = some (.int .i64 x) ∧ w'.cell? ⟨w.heap.size, 1, none⟩ = some (.int .i64 y) ∧ w'.cell? ⟨w.heap.size, 2, none⟩ = some (.int .i64 d) ∧ w'.cell? ⟨w.heap.size, 3, none⟩ = some (.int .i64 e) ∧ w'.cell? ⟨w.heap.size + 1 + 1, 0, none⟩ = some (.int .i64 0) ∧ w'.cell? ⟨w.heap.size + 1 + 1, 1, none⟩ = some (.int .i64 0) ∧ w'.cell? ⟨w.heap.size + 1 + 1, 2, none⟩ = some (.int .i64 0) ∧ w'.cell? ⟨w.heap.size + 1 + 1, 3, none⟩ = some (.int .i64 0) ∧ (∀ o, w'.frozen? ⟨w.heap.size + 1 + 1, o, none⟩ = false)) ⟨bdrewN B5 _, by simpa using lt5_0, by simp [*, go_sem], by simp [*, go_sem], by simp [*, go_sem], by simp [*, go_sem], by simp [*, go_sem], by simp [*, go_sem], by simp [*, go_sem], by simp [*, go_sem], fun o => by simp [*, go_sem]⟩ ?_
          rintro w7 ⟨B7, lt7_0, c7_0, c7_1, c7_2, c7_3, c7_4, c7_5, c7_6, c7_7, fz7_0⟩
          have z7 : w.heap.size ≤ w7.heap.size := B7.size
          clear c5_0 c5_1 c5_2 c5_3 c5_4 c5_5 c5_6 c5_7 c5_8 c5_9 c5_10 c5_11 fz5_0 lt5_0 lt5_1 lt5_2 B5
          go_region_held3 (fun w' => w'.cell? ⟨w.heap.size, 0, none⟩ = some (.int .i64 x) ∧ w'.cell? ⟨w.heap.size, 1, none⟩ = some (.int .i64 y)) (first | (go_keep; done) | (simp [*, go_sem]; done))
            (first
              | (go_at_call 37; refine (implFloor_any _ _ _ (by decide) (by decide) F1 F2).mono ?_; rintro e w' ⟨rfl, rfl⟩)
              | (go_at_call 38; refine (implCeil_any _ _ _ (by decide) (by decide) F3 F4).mono ?_; rintro e w' ⟨rfl, rfl⟩))
          all_goals clear W3 W4
          all_goals go_wp2_with (go_at_call 34; refine (isSounding_any _ _ _ _ _).mono ?_; rintro e w6 ⟨rfl, hb6⟩; obtain ⟨B6, hz6, q6, s6, t6, x6, y6, z6⟩ := bkeep (w := w) [w.heap.size, w.heap.size + 1, w.heap.size + 2, w7.heap.size] (by first | (simp; done) | (simp; omega)) (by first | (go_grown; done) | exact bdrewN (by go_grown) _) hb6; (try simp at hz6); clear hb6)
          all_goals refine bodyPost_ret (by simp [results, Try.results8, go_sem, *] <;> rfl) rfl ?_
          all_goals exact ⟨by rw [E0.out, E1.out, E1.out, E1.out, E1.out], by first | exact (by first | with_reducible exact B6 | (go_grown; done) | with_reducible exact bdrewN B6 _ | (go_grown <;> first | with_reducible exact bdrewN B6 _ | with_reducible exact B6)) | exact bdrewN B6 _⟩
      · have hl' : (lvC ts t != 0) = true := by rw [← q0]; simpa using hl
        obtain ⟨e0, e1⟩ := re_lev (x := x) (y := y) (d := d) (e := e) hs hl
        have H := Lib.hid h; have E0 := Lib.hid e0; have E1 := Lib.hid e1; have PP := Lib.hid p; have Q0 := Lib.hid q0
        clear h e0 e1 p q0 q1' q2' hl b1 b2 b3 b4
        go_enter Try.func8, Try.ntmps8
        go_wp2_with (first
          | (go_at_call 34; refine (isSounding_any _ _ _ _ _).mono ?_; rintro e w1 ⟨rfl, hb1⟩; obtain ⟨B1, hz1, q1, s1, t1, x1, y1, z1⟩ := bkeep (w := w) [w.heap.size, w.heap.size + 1, w.heap.size + 2] (by first | (simp; done) | (simp; omega)) (by first | (go_grown; done) | exact bdrewN (by go_grown) _) hb1; (try simp at hz1); clear hb1)
          | (go_at_call 24; refine (implIsGauge_any _ _ _ _ _ _ _ ⟨(H.out.1.below (B := w.heap.size) (by first | exact Below.refl _ _ | (go_grown; done) | exact bdrewN (by go_grown) _) (Nat.le_refl _)), (H.out.2.below (B := w.heap.size) (by first | exact Below.refl _ _ | (go_grown; done) | exact bdrewN (by go_grown) _) (Nat.le_refl _))⟩).mono ?_; rintro e w2 ⟨rfl, hb2⟩; obtain ⟨B2, hz2, q2, s2, t2, x2, y2, z2⟩ := bkeep (w := w) [w.heap.size, w.heap.size + 1, w.heap.size + 2] (by first | (simp; done) | (simp; omega)) (by first | (go_grown; done) | exact bdrewN (by go_grown) _) hb2; (try simp at hz2); clear hb2)
          | (go_at_call 35; refine (levelAt_any _ _ _ _ _ _ _ _ ⟨(H.out.1.below (B := w.heap.size) (by first | exact Below.refl _ _ | (go_grown; done) | exact bdrewN (by go_grown) _) (Nat.le_refl _)), (H.out.2.below (B := w.heap.size) (by first | exact Below.refl _ _ | (go_grown; done) | exact bdrewN (by go_grown) _) (Nat.le_refl _))⟩ PP.out).mono ?_; rintro e w3 ⟨rfl, hb3⟩; obtain ⟨B3, hz3, q3, s3, t3, x3, y3, z3⟩ := bkeep (w := w) [w.heap.size, w.heap.size + 1, w.heap.size + 2] (by first | (simp; done) | (simp; omega)) (by first | (go_grown; done) | exact bdrewN (by go_grown) _) hb3; (try simp at hz3); clear hb3))
        refine bodyPost_ret (by simp [results, Try.results8, go_sem, *] <;> rfl) rfl ?_
        exact ⟨by rw [E0.out, E1.out, E1.out, E1.out, E1.out, Q0.out], (by first | with_reducible exact B3 | (go_grown; done) | with_reducible exact bdrewN B3 _ | (go_grown <;> first | with_reducible exact bdrewN B3 _ | with_reducible exact B3))⟩
    · have hp' : gauB ts ls = false := by simpa using hp
      obtain ⟨q0, -, -⟩ := lv_bad (x := t) hp'
      have hl : lvE ts ls t ≠ 0 := by rw [q0]; omega
      have hl' : (lvE ts ls t != 0) = true := by simpa using hl
      obtain ⟨e0, e1⟩ := re_lev (x := x) (y := y) (d := d) (e := e) hs hl
      rw [q0] at e0
      have H := Lib.hid h; have E0 := Lib.hid e0; have E1 := Lib.hid e1; have Q0 := Lib.hid q0
      clear h e0 e1 hl hp q0
      go_enter Try.func8, Try.ntmps8
      go_wp2_with (first
        | (go_at_call 34; refine (isSounding_any _ _ _ _ _).mono ?_; rintro e w1 ⟨rfl, hb1⟩; obtain ⟨B1, hz1, q1, s1, t1, x1, y1, z1⟩ := bkeep (w := w) [w.heap.size, w.heap.size + 1, w.heap.size + 2] (by first | (simp; done) | (simp; omega)) (by first | (go_grown; done) | exact bdrewN (by go_grown) _) hb1; (try simp at hz1); clear hb1)
        | (go_at_call 24; refine (implIsGauge_any _ _ _ _ _ _ _ ⟨(H.out.1.below (B := w.heap.size) (by first | exact Below.refl _ _ | (go_grown; done) | exact bdrewN (by go_grown) _) (Nat.le_refl _)), (H.out.2.below (B := w.heap.size) (by first | exact Below.refl _ _ | (go_grown; done) | exact bdrewN (by go_grown) _) (Nat.le_refl _))⟩).mono ?_; rintro e w2 ⟨rfl, hb2⟩; obtain ⟨B2, hz2, q2, s2, t2, x2, y2, z2⟩ := bkeep (w := w) [w.heap.size, w.heap.size + 1, w.heap.size + 2] (by first | (simp; done) | (simp; omega)) (by first | (go_grown; done) | exact bdrewN (by go_grown) _) hb2; (try simp at hz2); clear hb2))
      refine bodyPost_ret (by simp [results, Try.results8, go_sem, *] <;> rfl) rfl ?_
      exact ⟨by rw [E0.out, E1.out, E1.out, E1.out, E1.out], (by first | with_reducible exact B2 | (go_grown; done) | with_reducible exact bdrewN B2 _ | (go_grown <;> first | with_reducible exact bdrewN B2 _ | with_reducible exact B2))⟩
  · have hs' : sndB x y d e = false := by simpa using hs
    obtain ⟨e0, e1⟩ := re_bad (ts := ts) (ls := ls) (t := t) hs'
    have H := Lib.hid h; have E0 := Lib.hid e0; have E1 := Lib.hid e1
    clear h e0 e1 hs
    go_enter Try.func8, Try.ntmps8
    go_wp2_with (go_at_call 34; refine (isSounding_any _ _ _ _ _).mono ?_; rintro e w1 ⟨rfl, hb1⟩; obtain ⟨B1, hz1, q1, s1, t1, x1, y1, z1⟩ := bkeep (w := w) [w.heap.size, w.heap.size + 1, w.heap.size + 2] (by first | (simp; done) | (simp; omega)) (by first | (go_grown; done) | exact bdrewN (by go_grown) _) hb1; (try simp at hz1); clear hb1)
    refine bodyPost_ret (by simp [results, Try.results8, go_sem, *] <;> rfl) rfl ?_
    exact ⟨by rw [E0.out, E1.out, E1.out, E1.out, E1.out], (by first | with_reducible exact B1 | (go_grown; done) | with_reducible exact bdrewN B1 _ | (go_grown <;> first | with_reducible exact bdrewN B1 _ | with_reducible exact B1))⟩
set_option maxHeartbeats 4000000 in
theorem specReduce_any (x y d e : Int) (A1 A2 : Option Addr) (c1 c2 : Nat) (ts ls : List Int) (t : Int) (w : World) (h : ProfAt w A1 c1 A2 c2 ts ls) :
    Calls Try.prog 9 #[sndV x y d e, profV A1 ts.length c1 A2 ls.length c2, .int .i64 t] w fun e' w' => e' = .returned (.tuple #[sndV (reV x y d e ts ls t x) (reV x y d e ts ls t y) (reV x y d e ts ls t (reD d e ts ls t)) (reV x y d e ts ls t (reE d e ts ls t)), .int .i64 (reC x y d e ts ls t)]) ∧ Below w.heap.size w w' := by
  by_cases hs : sndB x y d e = true
  · obtain ⟨D1, D2, D3, D4⟩ := sndB_bd hs
    by_cases hp : gauB ts ls = true
    · have p := gauOk_of hp
      obtain ⟨q0, q1', q2'⟩ := lv_good (x := t) hp
      obtain ⟨b1, b2, b3, b4⟩ := lv_bd (x := t) hp
      rw [← q1'] at b1 b2; rw [← q2'] at b3 b4
      by_cases hl : lvE ts ls t = 0
      · have hl' : (lvE ts ls t != 0) = false := by rw [hl]; rfl
        have eD : reD d e ts ls t = (d - e - lvHi ts ls t + (d + e - lvLo ts ls t)) / 2 := by unfold reD; rfl
        have eE : reE d e ts ls t = -(-(d + e - lvLo ts ls t - (d - e - lvHi ts ls t)) / 2) := by unfold reE; rfl
        have kD := div_bd (a := d - e - lvHi ts ls t + (d + e - lvLo ts ls t)) (b := 2) (M := 20000000000) (by omega) (by omega) (by omega)
        have kE := div_bd (a := -(d + e - lvLo ts ls t - (d - e - lvHi ts ls t))) (b := 2) (M := 20000000000) (by omega) (by omega) (by omega)
        by_cases hr : sndB x y (reD d e ts ls t) (reE d e ts ls t) = true
        · obtain ⟨e0, e1⟩ := re_ok hs hl hr
          rw [eD, eE] at hr
          have H := Lib.hid h; have E0 := Lib.hid e0; have E1 := Lib.hid e1; have PP := Lib.hid p; have ED := Lib.hid eD; have EE := Lib.hid eE
          clear h e0 e1 p q0 q1' q2' hl eD eE
          obtain ⟨kD1, kD2⟩ := kD; obtain ⟨kE1, kE2⟩ := kE
          go_enter Try.func9, Try.ntmps9
          go_wp2_with (first
            | (go_at_call 39; refine (l21Is_any _ _ _ _ _).mono ?_; rintro e w1 ⟨rfl, hb1⟩; obtain ⟨B1, hz1, q1, s1, t1, x1, y1, z1⟩ := bkeep (w := w) [w.heap.size, w.heap.size + 1, w.heap.size + 2] (by first | (simp; done) | (simp; omega)) (by first | (go_grown; done) | exact bdrewN (by go_grown) _) hb1; (try simp at hz1); clear hb1)
            
            | (go_at_call 26; refine (specLevelAt_any _ _ _ _ _ _ _ _ ⟨(H.out.1.below (B := w.heap.size) (by first | exact Below.refl _ _ | (go_grown; done) | exact bdrewN (by go_grown) _) (Nat.le_refl _)), (H.out.2.below (B := w.heap.size) (by first | exact Below.refl _ _ | (go_grown; done) | exact bdrewN (by go_grown) _) (Nat.le_refl _))⟩).mono ?_; rintro e w3 ⟨rfl, hb3⟩; obtain ⟨B3, hz3, q3, s3, t3, x3, y3, z3⟩ := bkeep (w := w) [w.heap.size, w.heap.size + 1, w.heap.size + 2] (by first | (simp; done) | (simp; omega)) (by first | (go_grown; done) | exact bdrewN (by go_grown) _) hb3; (try simp at hz3); clear hb3)
            | (go_at_call 40; refine (l21Bounds_any _ _ _ _ _ D1 D2 D3 D4).mono ?_; rintro e w4 ⟨rfl, hb4⟩; obtain ⟨B4, hz4, q4, s4, t4, x4, y4, z4⟩ := bkeep (w := w) [w.heap.size, w.heap.size + 1, w.heap.size + 2, w3.heap.size] (by first | (simp; done) | (simp; omega)) (by first | (go_grown; done) | exact bdrewN (by go_grown) _) hb4; (try simp at hz4); clear hb4))
          refine genS (S := fun w' => Below (w.heap.size) w w' ∧ w.heap.size + 1 + 1 < w'.heap.size ∧ w3.heap.size < w'.heap.size ∧ w4.heap.size < w'.heap.size ∧ w'.cell? ⟨w.heap.size, 0, none⟩ = some (.int .i64 x) ∧ w'.cell? ⟨w.heap.size, 1, none⟩ = some (.int .i64 y) ∧ w'.cell? ⟨w.heap.size, 2, none⟩ = some (.int .i64 d) ∧ w'.cell? ⟨w.heap.size, 3, none⟩ = some (.int .i64 e) ∧ w'.cell? ⟨w.heap.size + 1 + 1, 0, none⟩ = some (.int .i64 0) ∧ w'.cell? ⟨w.heap.size + 1 + 1, 1, none⟩ = some (.int .i64 0) ∧ w'.cell? ⟨w.heap.size + 1 + 1, 2, none⟩ = some (.int .i64 0) ∧ w'.cell? ⟨w.heap.size + 1 + 1, 3, none⟩ = some (.int .i64 0) ∧ w'.cell? ⟨w3.heap.size, 0, none⟩ = some (.int .i64 (lvLo ts ls t)) ∧ w'.cell? ⟨w3.heap.size, 1, none⟩ = some (.int .i64 (lvHi ts ls t)) ∧ w'.cell? ⟨w4.heap.size, 0, none⟩ = some (.int .i64 (d - e)) ∧ w'.cell? ⟨w4.heap.size, 1, none⟩ = some (.int .i64 (d + e)) ∧ (∀ o, w'.frozen? ⟨w.heap.size + 1 + 1, o, none⟩ = false)) ⟨(by first | with_reducible exact B4 | (go_grown; done) | with_reducible exact bdrewN B4 _ | (go_grown <;> first | with_reducible exact bdrewN B4 _ | with_reducible exact B4)), by first | omega | (simp; done) | (simp; omega), by first | omega | (simp; done) | (simp; omega), by first | omega | (simp; done) | (simp; omega), by simp [*, go_sem], by simp [*, go_sem], by simp [*, go_sem], by simp [*, go_sem], by simp [*, go_sem], by simp [*, go_sem], by simp [*, go_sem], by simp [*, go_sem], by simp [*, go_sem], by simp [*, go_sem], by simp [*, go_sem], by simp [*, go_sem], fun o => by simp [*, go_sem]⟩ ?_
          clear q1 s1 t1 x1 y1 q3 s3 t3 x3 y3 q4 s4 t4 x4 y4
          rintro w5 ⟨B5, lt5_0, lt5_1, lt5_2, c5_0, c5_1, c5_2, c5_3, c5_4, c5_5, c5_6, c5_7, c5_8, c5_9, c5_10, c5_11, fz5_0⟩
          have z5 : w.heap.size ≤ w5.heap.size := B5.size
          have W1 : IntKind.i64.wrap (d - e - lvHi ts ls t) = d - e - lvHi ts ls t := IntWalk.i64_in _ (by omega)
          have W2 : IntKind.i64.wrap (d + e - lvLo ts ls t) = d + e - lvLo ts ls t := IntWalk.i64_in _ (by omega)
          go_quiet (fail)
          clear W1 W2
          go_wp2_with fail
          have W3 : IntKind.i64.wrap (d - e - lvHi ts ls t + (d + e - lvLo ts ls t)) = d - e - lvHi ts ls t + (d + e - lvLo ts ls t) := IntWalk.i64_in _ (by omega)
          have W4 : IntKind.i64.wrap (d + e - lvLo ts ls t - (d - e - lvHi ts ls t)) = d + e - lvLo ts ls t - (d - e - lvHi ts ls t) := IntWalk.i64_in _ (by omega)
          obtain ⟨F1, F2, F3, F4⟩ : -9000000000000000000 ≤ d - e - lvHi ts ls t + (d + e - lvLo ts ls t) ∧ d - e - lvHi ts ls t + (d + e - lvLo ts ls t) ≤ 9000000000000000000 ∧ -9000000000000000000 ≤ d + e - lvLo ts ls t - (d - e - lvHi ts ls t) ∧ d + e - lvLo ts ls t - (d - e - lvHi ts ls t) ≤ 9000000000000000000 := by omega
          refine genS (S := fun w' => Below (w.heap.size) w w' ∧ w.heap.size + 1 + 1 < w'.heap.size ∧ w'.cell? ⟨w.heap.size, 0, none⟩ = some (.int .i64 x) ∧ w'.cell? ⟨w.heap.size, 1, none⟩ = some (.int .i64 y) ∧ w'.cell? ⟨w.heap.size, 2, none⟩ = some (.int .i64 d) ∧ w'.cell? ⟨w.heap.size, 3, none⟩ = some (.int .i64 e) ∧ w'.cell? ⟨w.heap.size + 1 + 1, 0, none⟩ = some (.int .i64 0) ∧ w'.cell? ⟨w.heap.size + 1 + 1, 1, none⟩ = some (.int .i64 0) ∧ w'.cell? ⟨w.heap.size + 1 + 1, 2, none⟩ = some (.int .i64 0) ∧ w'.cell? ⟨w.heap.size + 1 + 1, 3, none⟩ = some (.int .i64 0) ∧ (∀ o, w'.frozen? ⟨w.heap.size + 1 + 1, o, none⟩ = false)) ⟨bdrewN B5 _, by simpa using lt5_0, by simp [*, go_sem], by simp [*, go_sem], by simp [*, go_sem], by simp [*, go_sem], by simp [*, go_sem], by simp [*, go_sem], by simp [*, go_sem], by simp [*, go_sem], fun o => by simp [*, go_sem]⟩ ?_
          rintro w7 ⟨B7, lt7_0, c7_0, c7_1, c7_2, c7_3, c7_4, c7_5, c7_6, c7_7, fz7_0⟩
          have z7 : w.heap.size ≤ w7.heap.size := B7.size
          clear c5_0 c5_1 c5_2 c5_3 c5_4 c5_5 c5_6 c5_7 c5_8 c5_9 c5_10 c5_11 fz5_0 lt5_0 lt5_1 lt5_2 B5
          go_region_held3 (fun w' => w'.cell? ⟨w.heap.size, 0, none⟩ = some (.int .i64 x) ∧ w'.cell? ⟨w.heap.size, 1, none⟩ = some (.int .i64 y)) (first | (go_keep; done) | (simp [*, go_sem]; done))
            (first
              | (go_at_call 41; refine (specFloor_any _ _ _ (by decide) (by decide) F1 F2).mono ?_; rintro e w' ⟨rfl, rfl⟩)
              | (go_at_call 42; refine (specCeil_any _ _ _ (by decide) (by decide) F3 F4).mono ?_; rintro e w' ⟨rfl, rfl⟩))
          all_goals clear W3 W4
          all_goals go_wp2_with (go_at_call 39; refine (l21Is_any _ _ _ _ _).mono ?_; rintro e w6 ⟨rfl, hb6⟩; obtain ⟨B6, hz6, q6, s6, t6, x6, y6, z6⟩ := bkeep (w := w) [w.heap.size, w.heap.size + 1, w.heap.size + 2, w7.heap.size] (by first | (simp; done) | (simp; omega)) (by first | (go_grown; done) | exact bdrewN (by go_grown) _) hb6; (try simp at hz6); clear hb6)
          all_goals refine bodyPost_ret (by simp [results, Try.results9, go_sem, *] <;> rfl) rfl ?_
          all_goals exact ⟨by rw [E0.out, E1.out, E1.out, E1.out, E1.out, ED.out, EE.out], by first | exact (by first | with_reducible exact B6 | (go_grown; done) | with_reducible exact bdrewN B6 _ | (go_grown <;> first | with_reducible exact bdrewN B6 _ | with_reducible exact B6)) | exact bdrewN B6 _⟩
        · have hr' : sndB x y (reD d e ts ls t) (reE d e ts ls t) = false := by simpa using hr
          obtain ⟨e0, e1⟩ := re_lim hs hl hr'
          clear hr
          rw [eD, eE] at hr'
          have H := Lib.hid h; have E0 := Lib.hid e0; have E1 := Lib.hid e1; have PP := Lib.hid p; have ED := Lib.hid eD; have EE := Lib.hid eE
          clear h e0 e1 p q0 q1' q2' hl eD eE
          obtain ⟨kD1, kD2⟩ := kD; obtain ⟨kE1, kE2⟩ := kE
          go_enter Try.func9, Try.ntmps9
          go_wp2_with (first
            | (go_at_call 39; refine (l21Is_any _ _ _ _ _).mono ?_; rintro e w1 ⟨rfl, hb1⟩; obtain ⟨B1, hz1, q1, s1, t1, x1, y1, z1⟩ := bkeep (w := w) [w.heap.size, w.heap.size + 1, w.heap.size + 2] (by first | (simp; done) | (simp; omega)) (by first | (go_grown; done) | exact bdrewN (by go_grown) _) hb1; (try simp at hz1); clear hb1)
            
            | (go_at_call 26; refine (specLevelAt_any _ _ _ _ _ _ _ _ ⟨(H.out.1.below (B := w.heap.size) (by first | exact Below.refl _ _ | (go_grown; done) | exact bdrewN (by go_grown) _) (Nat.le_refl _)), (H.out.2.below (B := w.heap.size) (by first | exact Below.refl _ _ | (go_grown; done) | exact bdrewN (by go_grown) _) (Nat.le_refl _))⟩).mono ?_; rintro e w3 ⟨rfl, hb3⟩; obtain ⟨B3, hz3, q3, s3, t3, x3, y3, z3⟩ := bkeep (w := w) [w.heap.size, w.heap.size + 1, w.heap.size + 2] (by first | (simp; done) | (simp; omega)) (by first | (go_grown; done) | exact bdrewN (by go_grown) _) hb3; (try simp at hz3); clear hb3)
            | (go_at_call 40; refine (l21Bounds_any _ _ _ _ _ D1 D2 D3 D4).mono ?_; rintro e w4 ⟨rfl, hb4⟩; obtain ⟨B4, hz4, q4, s4, t4, x4, y4, z4⟩ := bkeep (w := w) [w.heap.size, w.heap.size + 1, w.heap.size + 2, w3.heap.size] (by first | (simp; done) | (simp; omega)) (by first | (go_grown; done) | exact bdrewN (by go_grown) _) hb4; (try simp at hz4); clear hb4))
          refine genS (S := fun w' => Below (w.heap.size) w w' ∧ w.heap.size + 1 + 1 < w'.heap.size ∧ w3.heap.size < w'.heap.size ∧ w4.heap.size < w'.heap.size ∧ w'.cell? ⟨w.heap.size, 0, none⟩ = some (.int .i64 x) ∧ w'.cell? ⟨w.heap.size, 1, none⟩ = some (.int .i64 y) ∧ w'.cell? ⟨w.heap.size, 2, none⟩ = some (.int .i64 d) ∧ w'.cell? ⟨w.heap.size, 3, none⟩ = some (.int .i64 e) ∧ w'.cell? ⟨w.heap.size + 1 + 1, 0, none⟩ = some (.int .i64 0) ∧ w'.cell? ⟨w.heap.size + 1 + 1, 1, none⟩ = some (.int .i64 0) ∧ w'.cell? ⟨w.heap.size + 1 + 1, 2, none⟩ = some (.int .i64 0) ∧ w'.cell? ⟨w.heap.size + 1 + 1, 3, none⟩ = some (.int .i64 0) ∧ w'.cell? ⟨w3.heap.size, 0, none⟩ = some (.int .i64 (lvLo ts ls t)) ∧ w'.cell? ⟨w3.heap.size, 1, none⟩ = some (.int .i64 (lvHi ts ls t)) ∧ w'.cell? ⟨w4.heap.size, 0, none⟩ = some (.int .i64 (d - e)) ∧ w'.cell? ⟨w4.heap.size, 1, none⟩ = some (.int .i64 (d + e)) ∧ (∀ o, w'.frozen? ⟨w.heap.size + 1 + 1, o, none⟩ = false)) ⟨(by first | with_reducible exact B4 | (go_grown; done) | with_reducible exact bdrewN B4 _ | (go_grown <;> first | with_reducible exact bdrewN B4 _ | with_reducible exact B4)), by first | omega | (simp; done) | (simp; omega), by first | omega | (simp; done) | (simp; omega), by first | omega | (simp; done) | (simp; omega), by simp [*, go_sem], by simp [*, go_sem], by simp [*, go_sem], by simp [*, go_sem], by simp [*, go_sem], by simp [*, go_sem], by simp [*, go_sem], by simp [*, go_sem], by simp [*, go_sem], by simp [*, go_sem], by simp [*, go_sem], by simp [*, go_sem], fun o => by simp [*, go_sem]⟩ ?_
          clear q1 s1 t1 x1 y1 q3 s3 t3 x3 y3 q4 s4 t4 x4 y4
          rintro w5 ⟨B5, lt5_0, lt5_1, lt5_2, c5_0, c5_1, c5_2, c5_3, c5_4, c5_5, c5_6, c5_7, c5_8, c5_9, c5_10, c5_11, fz5_0⟩
          have z5 : w.heap.size ≤ w5.heap.size := B5.size
          have W1 : IntKind.i64.wrap (d - e - lvHi ts ls t) = d - e - lvHi ts ls t := IntWalk.i64_in _ (by omega)
          have W2 : IntKind.i64.wrap (d + e - lvLo ts ls t) = d + e - lvLo ts ls t := IntWalk.i64_in _ (by omega)
          go_quiet (fail)
          clear W1 W2
          go_wp2_with fail
          have W3 : IntKind.i64.wrap (d - e - lvHi ts ls t + (d + e - lvLo ts ls t)) = d - e - lvHi ts ls t + (d + e - lvLo ts ls t) := IntWalk.i64_in _ (by omega)
          have W4 : IntKind.i64.wrap (d + e - lvLo ts ls t - (d - e - lvHi ts ls t)) = d + e - lvLo ts ls t - (d - e - lvHi ts ls t) := IntWalk.i64_in _ (by omega)
          obtain ⟨F1, F2, F3, F4⟩ : -9000000000000000000 ≤ d - e - lvHi ts ls t + (d + e - lvLo ts ls t) ∧ d - e - lvHi ts ls t + (d + e - lvLo ts ls t) ≤ 9000000000000000000 ∧ -9000000000000000000 ≤ d + e - lvLo ts ls t - (d - e - lvHi ts ls t) ∧ d + e - lvLo ts ls t - (d - e - lvHi ts ls t) ≤ 9000000000000000000 := by omega
          refine genS (S := fun w' => Below (w.heap.size) w w' ∧ w.heap.size + 1 + 1 < w'.heap.size ∧ w'.cell? ⟨w.heap.size, 0, none⟩ = some (.int .i64 x) ∧ w'.cell? ⟨w.heap.size, 1, none⟩ = some (.int .i64 y) ∧ w'.cell? ⟨w.heap.size, 2, none⟩ = some (.int .i64 d) ∧ w'.cell? ⟨w.heap.size, 3, none⟩ = some (.int .i64 e) ∧ w'.cell? ⟨w.heap.size + 1 + 1, 0, none⟩ = some (.int .i64 0) ∧ w'.cell? ⟨w.heap.size + 1 + 1, 1, none⟩ = some (.int .i64 0) ∧ w'.cell? ⟨w.heap.size + 1 + 1, 2, none⟩ = some (.int .i64 0) ∧ w'.cell? ⟨w.heap.size + 1 + 1, 3, none⟩ = some (.int .i64 0) ∧ (∀ o, w'.frozen? ⟨w.heap.size + 1 + 1, o, none⟩ = false)) ⟨bdrewN B5 _, by simpa using lt5_0, by simp [*, go_sem], by simp [*, go_sem], by simp [*, go_sem], by simp [*, go_sem], by simp [*, go_sem], by simp [*, go_sem], by simp [*, go_sem], by simp [*, go_sem], fun o => by simp [*, go_sem]⟩ ?_
          rintro w7 ⟨B7, lt7_0, c7_0, c7_1, c7_2, c7_3, c7_4, c7_5, c7_6, c7_7, fz7_0⟩
          have z7 : w.heap.size ≤ w7.heap.size := B7.size
          clear c5_0 c5_1 c5_2 c5_3 c5_4 c5_5 c5_6 c5_7 c5_8 c5_9 c5_10 c5_11 fz5_0 lt5_0 lt5_1 lt5_2 B5
          go_region_held3 (fun w' => w'.cell? ⟨w.heap.size, 0, none⟩ = some (.int .i64 x) ∧ w'.cell? ⟨w.heap.size, 1, none⟩ = some (.int .i64 y)) (first | (go_keep; done) | (simp [*, go_sem]; done))
            (first
              | (go_at_call 41; refine (specFloor_any _ _ _ (by decide) (by decide) F1 F2).mono ?_; rintro e w' ⟨rfl, rfl⟩)
              | (go_at_call 42; refine (specCeil_any _ _ _ (by decide) (by decide) F3 F4).mono ?_; rintro e w' ⟨rfl, rfl⟩))
          all_goals clear W3 W4
          all_goals go_wp2_with (go_at_call 39; refine (l21Is_any _ _ _ _ _).mono ?_; rintro e w6 ⟨rfl, hb6⟩; obtain ⟨B6, hz6, q6, s6, t6, x6, y6, z6⟩ := bkeep (w := w) [w.heap.size, w.heap.size + 1, w.heap.size + 2, w7.heap.size] (by first | (simp; done) | (simp; omega)) (by first | (go_grown; done) | exact bdrewN (by go_grown) _) hb6; (try simp at hz6); clear hb6)
          all_goals refine bodyPost_ret (by simp [results, Try.results9, go_sem, *] <;> rfl) rfl ?_
          all_goals exact ⟨by rw [E0.out, E1.out, E1.out, E1.out, E1.out], by first | exact (by first | with_reducible exact B6 | (go_grown; done) | with_reducible exact bdrewN B6 _ | (go_grown <;> first | with_reducible exact bdrewN B6 _ | with_reducible exact B6)) | exact bdrewN B6 _⟩
      · have hl' : (lvE ts ls t != 0) = true := by simpa using hl
        obtain ⟨e0, e1⟩ := re_lev (x := x) (y := y) (d := d) (e := e) hs hl
        have H := Lib.hid h; have E0 := Lib.hid e0; have E1 := Lib.hid e1; have PP := Lib.hid p; have Q0 := Lib.hid q0
        clear h e0 e1 p q0 q1' q2' hl b1 b2 b3 b4
        go_enter Try.func9, Try.ntmps9
        go_wp2_with (first
          | (go_at_call 39; refine (l21Is_any _ _ _ _ _).mono ?_; rintro e w1 ⟨rfl, hb1⟩; obtain ⟨B1, hz1, q1, s1, t1, x1, y1, z1⟩ := bkeep (w := w) [w.heap.size, w.heap.size + 1, w.heap.size + 2] (by first | (simp; done) | (simp; omega)) (by first | (go_grown; done) | exact bdrewN (by go_grown) _) hb1; (try simp at hz1); clear hb1)
          
          | (go_at_call 26; refine (specLevelAt_any _ _ _ _ _ _ _ _ ⟨(H.out.1.below (B := w.heap.size) (by first | exact Below.refl _ _ | (go_grown; done) | exact bdrewN (by go_grown) _) (Nat.le_refl _)), (H.out.2.below (B := w.heap.size) (by first | exact Below.refl _ _ | (go_grown; done) | exact bdrewN (by go_grown) _) (Nat.le_refl _))⟩).mono ?_; rintro e w3 ⟨rfl, hb3⟩; obtain ⟨B3, hz3, q3, s3, t3, x3, y3, z3⟩ := bkeep (w := w) [w.heap.size, w.heap.size + 1, w.heap.size + 2] (by first | (simp; done) | (simp; omega)) (by first | (go_grown; done) | exact bdrewN (by go_grown) _) hb3; (try simp at hz3); clear hb3))
        refine bodyPost_ret (by simp [results, Try.results9, go_sem, *] <;> rfl) rfl ?_
        exact ⟨by rw [E0.out, E1.out, E1.out, E1.out, E1.out], (by first | with_reducible exact B3 | (go_grown; done) | with_reducible exact bdrewN B3 _ | (go_grown <;> first | with_reducible exact bdrewN B3 _ | with_reducible exact B3))⟩
    · have hp' : gauB ts ls = false := by simpa using hp
      obtain ⟨q0, -, -⟩ := lv_bad (x := t) hp'
      have hl : lvE ts ls t ≠ 0 := by rw [q0]; omega
      have hl' : (lvE ts ls t != 0) = true := by simpa using hl
      obtain ⟨e0, e1⟩ := re_lev (x := x) (y := y) (d := d) (e := e) hs hl
      rw [q0] at e0
      have H := Lib.hid h; have E0 := Lib.hid e0; have E1 := Lib.hid e1; have Q0 := Lib.hid q0
      clear h e0 e1 hl hp q0
      go_enter Try.func9, Try.ntmps9
      go_wp2_with (first
        | (go_at_call 39; refine (l21Is_any _ _ _ _ _).mono ?_; rintro e w1 ⟨rfl, hb1⟩; obtain ⟨B1, hz1, q1, s1, t1, x1, y1, z1⟩ := bkeep (w := w) [w.heap.size, w.heap.size + 1, w.heap.size + 2] (by first | (simp; done) | (simp; omega)) (by first | (go_grown; done) | exact bdrewN (by go_grown) _) hb1; (try simp at hz1); clear hb1)
        | (go_at_call 26; refine (specLevelAt_any _ _ _ _ _ _ _ _ ⟨(H.out.1.below (B := w.heap.size) (by first | exact Below.refl _ _ | (go_grown; done) | exact bdrewN (by go_grown) _) (Nat.le_refl _)), (H.out.2.below (B := w.heap.size) (by first | exact Below.refl _ _ | (go_grown; done) | exact bdrewN (by go_grown) _) (Nat.le_refl _))⟩).mono ?_; rintro e w3 ⟨rfl, hb3⟩; obtain ⟨B3, hz3, q3, s3, t3, x3, y3, z3⟩ := bkeep (w := w) [w.heap.size, w.heap.size + 1, w.heap.size + 2] (by first | (simp; done) | (simp; omega)) (by first | (go_grown; done) | exact bdrewN (by go_grown) _) hb3; (try simp at hz3); clear hb3))
      refine bodyPost_ret (by simp [results, Try.results9, go_sem, *] <;> rfl) rfl ?_
      exact ⟨by rw [E0.out, E1.out, E1.out, E1.out, E1.out, Q0.out], (by first | with_reducible exact B3 | (go_grown; done) | with_reducible exact bdrewN B3 _ | (go_grown <;> first | with_reducible exact bdrewN B3 _ | with_reducible exact B3))⟩
  · have hs' : sndB x y d e = false := by simpa using hs
    obtain ⟨e0, e1⟩ := re_bad (ts := ts) (ls := ls) (t := t) hs'
    have H := Lib.hid h; have E0 := Lib.hid e0; have E1 := Lib.hid e1
    clear h e0 e1 hs
    go_enter Try.func9, Try.ntmps9
    go_wp2_with (go_at_call 39; refine (l21Is_any _ _ _ _ _).mono ?_; rintro e w1 ⟨rfl, hb1⟩; obtain ⟨B1, hz1, q1, s1, t1, x1, y1, z1⟩ := bkeep (w := w) [w.heap.size, w.heap.size + 1, w.heap.size + 2] (by first | (simp; done) | (simp; omega)) (by first | (go_grown; done) | exact bdrewN (by go_grown) _) hb1; (try simp at hz1); clear hb1)
    refine bodyPost_ret (by simp [results, Try.results9, go_sem, *] <;> rfl) rfl ?_
    exact ⟨by rw [E0.out, E1.out, E1.out, E1.out, E1.out], (by first | with_reducible exact B1 | (go_grown; done) | with_reducible exact bdrewN B1 _ | (go_grown <;> first | with_reducible exact bdrewN B1 _ | with_reducible exact B1))⟩
end Go.Proofs.Ytjabldjffpjkeaa
