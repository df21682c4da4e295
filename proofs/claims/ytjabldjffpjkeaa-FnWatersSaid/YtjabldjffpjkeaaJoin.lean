/- Two gauges joined: what JoinGauges returns, by the program and by the reference. -/
import Derived.Test.YtjabldjffpjkeaaCat
import Derived.Test.YtjabldjffpjkeaaMean
import Derived.Test.YtjabldjffpjkeaaCut
import Derived.Deep.DeepCutAuto
namespace Go.Proofs.Ytjabldjffpjkeaa
set_option linter.unusedSimpArgs false
set_option linter.unusedVariables false
open Go.RowKit

@[irreducible] def jgC (ts ls us ms : List Int) : Int :=
  if gauB ts ls && gauB us ms then (if spd us 0 ≤ spd ts ((ts.length : Int) - 1) then 5 else if 40 < ts.length + us.length then 3 else 0) else 1
@[irreducible] def jgT (ts ls us ms : List Int) : List Int := if jgC ts ls us ms = 0 then ts ++ us else []
@[irreducible] def jgL (ts ls us ms : List Int) : List Int := if jgC ts ls us ms = 0 then ls ++ ms else []
theorem jg_of {ts ls us ms : List Int} {c : Int} (h : jgC ts ls us ms = c) (hc : c ≠ 0) : jgT ts ls us ms = [] ∧ jgL ts ls us ms = [] := by
  unfold jgT jgL
  rw [h, if_neg hc]
  exact ⟨rfl, by rw [if_neg hc]⟩
theorem jg_bad {ts ls us ms : List Int} (h : (gauB ts ls && gauB us ms) = false) : jgC ts ls us ms = 1 := by unfold jgC; rw [h]; rfl
theorem jg_state {ts ls us ms : List Int} (h : (gauB ts ls && gauB us ms) = true) (h1 : spd us 0 ≤ spd ts ((ts.length : Int) - 1)) : jgC ts ls us ms = 5 := by unfold jgC; rw [if_pos h, if_pos h1]
theorem jg_lim {ts ls us ms : List Int} (h : (gauB ts ls && gauB us ms) = true) (h1 : ¬ spd us 0 ≤ spd ts ((ts.length : Int) - 1)) (h2 : 40 < ts.length + us.length) : jgC ts ls us ms = 3 := by unfold jgC; rw [if_pos h, if_neg h1, if_pos h2]
theorem jg_ok {ts ls us ms : List Int} (h : (gauB ts ls && gauB us ms) = true) (h1 : ¬ spd us 0 ≤ spd ts ((ts.length : Int) - 1)) (h2 : ¬ 40 < ts.length + us.length) : jgC ts ls us ms = 0 ∧ jgT ts ls us ms = ts ++ us ∧ jgL ts ls us ms = ls ++ ms := by
  have e : jgC ts ls us ms = 0 := by unfold jgC; rw [if_pos h, if_neg h1, if_neg h2]
  unfold jgT jgL
  rw [e]
  exact ⟨rfl, rfl, rfl⟩
theorem jg_len (ts ls us ms : List Int) : (jgT ts ls us ms).length ≤ 1000 ∧ (jgL ts ls us ms).length ≤ 1000 := by
  by_cases h : (gauB ts ls && gauB us ms) = true
  · rw [Bool.and_eq_true] at h
    obtain ⟨l1, l2, l3, -, -, -⟩ := gau_is h.1
    obtain ⟨m1, m2, m3, -, -, -⟩ := gau_is h.2
    unfold jgT jgL
    split
    · simp; omega
    · simp
  · obtain ⟨e1, e2⟩ := jg_of (jg_bad (ts := ts) (ls := ls) (us := us) (ms := ms) (by simpa using h)) (by omega)
    rw [e1, e2]; simp

set_option maxRecDepth 100000 in
set_option maxHeartbeats 8000000 in
theorem implJoin_any (A1 A2 A3 A4 : Option Addr) (c1 c2 c3 c4 : Nat) (ts ls us ms : List Int) (w : World) (h : ProfAt w A1 c1 A2 c2 ts ls) (j : ProfAt w A3 c3 A4 c4 us ms) :
    Calls Try.prog 15 #[profV A1 ts.length c1 A2 ls.length c2, profV A3 us.length c3 A4 ms.length c4] w fun e w' => (∃ B1 d1 B2 d2, e = .returned (.tuple #[profV B1 (jgT ts ls us ms).length d1 B2 (jgL ts ls us ms).length d2, .int .i64 (jgC ts ls us ms)]) ∧ ResP w' w.heap.size w'.heap.size B1 d1 B2 d2 (jgT ts ls us ms) (jgL ts ls us ms)) ∧ Below w.heap.size w w' := by
  by_cases hp : gauB ts ls = true
  · by_cases hq : gauB us ms = true
    · have hpq : (gauB ts ls && gauB us ms) = true := by rw [hp, hq]; rfl
      have p := gauOk_of hp; have q := gauOk_of hq
      have l1 := p.l1; have l2 := p.l2; have l3 := p.l3; have l4 := p.l4
      have k1 := q.l1; have k2 := q.l2; have k3 := q.l3; have k4 := q.l4
      have PQ := Lib.hid hpq; clear hpq p q
      have n0 : 0 < ts.length := by omega
      have n1 : 0 < us.length := by omega
      by_cases ho : spd us 0 ≤ spd ts ((ts.length : Int) - 1)
      · have e0 := jg_state PQ.out ho
        obtain ⟨e1, e2⟩ := jg_of e0 (by omega)
        have H := Lib.hid h; have J := Lib.hid j; have E0 := Lib.hid e0; have E1 := Lib.hid e1; have E2 := Lib.hid e2; clear h j e0 e1 e2 
        go_enter Try.func15, Try.ntmps15
        go_wp2_with (first | (have hq_ := B1; (go_at_call 24; refine (implIsGauge_any A3 A4 c3 c4 us ms _ ⟨(J.out.1.below (B := w.heap.size) (by first | exact Below.refl _ _ | (go_grown; done) | exact bdrewN (by go_grown) _) (Nat.le_refl _)), (J.out.2.below (B := w.heap.size) (by first | exact Below.refl _ _ | (go_grown; done) | exact bdrewN (by go_grown) _) (Nat.le_refl _))⟩).mono ?_; rintro e w2 ⟨rfl, hb2⟩; obtain ⟨B2, hz2, q2, s2, t2, x2, y2, z2⟩ := bkeep (w := w) [w.heap.size, w.heap.size + 1, w.heap.size + 2] (by first | (simp; done) | (simp; omega)) (by first | (go_grown; done) | exact bdrewN (by go_grown) _) hb2; (try simp at hz2); clear hb2)) | (go_at_call 24; refine (implIsGauge_any A1 A2 c1 c2 ts ls _ ⟨(H.out.1.below (B := w.heap.size) (by first | exact Below.refl _ _ | (go_grown; done) | exact bdrewN (by go_grown) _) (Nat.le_refl _)), (H.out.2.below (B := w.heap.size) (by first | exact Below.refl _ _ | (go_grown; done) | exact bdrewN (by go_grown) _) (Nat.le_refl _))⟩).mono ?_; rintro e w1 ⟨rfl, hb1⟩; obtain ⟨B1, hz1, q1, s1, t1, x1, y1, z1⟩ := bkeep (w := w) [w.heap.size, w.heap.size + 1, w.heap.size + 2] (by first | (simp; done) | (simp; omega)) (by first | (go_grown; done) | exact bdrewN (by go_grown) _) hb1; (try simp at hz1); clear hb1))
        refine genS (S := fun w' => Below (w.heap.size) w w' ∧ w.heap.size + 1 + 1 < w'.heap.size ∧ w'.cell? ⟨w.heap.size, 0, none⟩ = some (.slice A1 ts.length c1) ∧ w'.cell? ⟨w.heap.size, 1, none⟩ = some (.slice A2 ls.length c2) ∧ w'.cell? ⟨w.heap.size + 1, 0, none⟩ = some (.slice A3 us.length c3) ∧ w'.cell? ⟨w.heap.size + 1, 1, none⟩ = some (.slice A4 ms.length c4) ∧ w'.cell? ⟨w.heap.size + 1 + 1, 0, none⟩ = some (.slice none 0 0) ∧ w'.cell? ⟨w.heap.size + 1 + 1, 1, none⟩ = some (.slice none 0 0) ∧ (∀ o, w'.frozen? ⟨w.heap.size + 1 + 1, o, none⟩ = false)) ⟨(by first | with_reducible exact B2 | (go_grown; done) | with_reducible exact bdrewN B2 _ | (go_grown <;> first | with_reducible exact bdrewN B2 _ | with_reducible exact B2)), by first | omega | (simp; done) | (simp; omega), by simp [*, go_sem], by simp [*, go_sem], by simp [*, go_sem], by simp [*, go_sem], by simp [*, go_sem], by simp [*, go_sem], fun o => by simp [*, go_sem]⟩ ?_
        clear q1 s1 t1 x1 y1 q2 s2 t2 x2 y2
        rintro w3 ⟨B3, lt3_0, c3_0, c3_1, c3_2, c3_3, c3_4, c3_5, fz3_0⟩
        have z3 : w.heap.size ≤ w3.heap.size := B3.size
        go_region_held3 (fun w' => w'.cell? ⟨w.heap.size, 0, none⟩ = some (.slice A1 ts.length c1) ∧ w'.cell? ⟨w.heap.size, 1, none⟩ = some (.slice A2 ls.length c2) ∧ w'.cell? ⟨w.heap.size + 1, 0, none⟩ = some (.slice A3 us.length c3) ∧ w'.cell? ⟨w.heap.size + 1, 1, none⟩ = some (.slice A4 ms.length c4)) (first | (go_keep; done) | (simp [*, go_sem]; done))
          (first
            | (go_at_call 46; refine (gFirst_any A3 A4 c3 _ c4 us _ (J.out.1.below (B := w.heap.size) (by first | exact Below.refl _ _ | (go_grown; done) | exact bdrewN (by go_grown) _) (Nat.le_refl _)) n1).mono ?_; rintro e w5 ⟨rfl, hb5⟩; obtain ⟨B5, hz5, q5, s5, t5, x5, y5, z5⟩ := bkeep (w := w) [w.heap.size, w.heap.size + 1, w.heap.size + 2] (by first | (simp; done) | (simp; omega)) (by first | (go_grown; done) | exact bdrewN (by go_grown) _) hb5; (try simp at hz5); clear hb5)
            | (go_at_call 47; refine (gLast_any A1 A2 c1 _ c2 ts ((ts.length : Int) - 1) _ (H.out.1.below (B := w.heap.size) (by first | exact Below.refl _ _ | (go_grown; done) | exact bdrewN (by go_grown) _) (Nat.le_refl _)) n0 rfl).mono ?_; rintro e w6 ⟨rfl, hb6⟩; obtain ⟨B6, hz6, q6, s6, t6, x6, y6, z6⟩ := bkeep (w := w) [w.heap.size, w.heap.size + 1, w.heap.size + 2] (by first | (simp; done) | (simp; omega)) (by first | (go_grown; done) | exact bdrewN (by go_grown) _) hb6; (try simp at hz6); clear hb6))
        go_wp2
        refine bodyPost_ret (by simp [results, Try.results15, go_sem, *] <;> rfl) rfl ?_
        exact ⟨⟨none, 0, none, 0, by rw [E0.out, E1.out, E2.out]; rfl, by rw [E1.out, E2.out]; exact ResP.nil _ _ _ _ _⟩, by first | exact (by first | with_reducible exact B6 | (go_grown; done) | with_reducible exact bdrewN B6 _ | (go_grown <;> first | with_reducible exact bdrewN B6 _ | with_reducible exact B6)) | exact bdrewN B6 _⟩
      · by_cases hl : 40 < ts.length + us.length
        · have e0 := jg_lim PQ.out ho hl
          have hl' : (40 : Int) < (ts.length : Int) + us.length := by omega
          obtain ⟨e1, e2⟩ := jg_of e0 (by omega)
          have H := Lib.hid h; have J := Lib.hid j; have E0 := Lib.hid e0; have E1 := Lib.hid e1; have E2 := Lib.hid e2; clear h j e0 e1 e2 
          go_enter Try.func15, Try.ntmps15
          go_wp2_with (first | (have hq_ := B1; (go_at_call 24; refine (implIsGauge_any A3 A4 c3 c4 us ms _ ⟨(J.out.1.below (B := w.heap.size) (by first | exact Below.refl _ _ | (go_grown; done) | exact bdrewN (by go_grown) _) (Nat.le_refl _)), (J.out.2.below (B := w.heap.size) (by first | exact Below.refl _ _ | (go_grown; done) | exact bdrewN (by go_grown) _) (Nat.le_refl _))⟩).mono ?_; rintro e w2 ⟨rfl, hb2⟩; obtain ⟨B2, hz2, q2, s2, t2, x2, y2, z2⟩ := bkeep (w := w) [w.heap.size, w.heap.size + 1, w.heap.size + 2] (by first | (simp; done) | (simp; omega)) (by first | (go_grown; done) | exact bdrewN (by go_grown) _) hb2; (try simp at hz2); clear hb2)) | (go_at_call 24; refine (implIsGauge_any A1 A2 c1 c2 ts ls _ ⟨(H.out.1.below (B := w.heap.size) (by first | exact Below.refl _ _ | (go_grown; done) | exact bdrewN (by go_grown) _) (Nat.le_refl _)), (H.out.2.below (B := w.heap.size) (by first | exact Below.refl _ _ | (go_grown; done) | exact bdrewN (by go_grown) _) (Nat.le_refl _))⟩).mono ?_; rintro e w1 ⟨rfl, hb1⟩; obtain ⟨B1, hz1, q1, s1, t1, x1, y1, z1⟩ := bkeep (w := w) [w.heap.size, w.heap.size + 1, w.heap.size + 2] (by first | (simp; done) | (simp; omega)) (by first | (go_grown; done) | exact bdrewN (by go_grown) _) hb1; (try simp at hz1); clear hb1))
          refine genS (S := fun w' => Below (w.heap.size) w w' ∧ w.heap.size + 1 + 1 < w'.heap.size ∧ w'.cell? ⟨w.heap.size, 0, none⟩ = some (.slice A1 ts.length c1) ∧ w'.cell? ⟨w.heap.size, 1, none⟩ = some (.slice A2 ls.length c2) ∧ w'.cell? ⟨w.heap.size + 1, 0, none⟩ = some (.slice A3 us.length c3) ∧ w'.cell? ⟨w.heap.size + 1, 1, none⟩ = some (.slice A4 ms.length c4) ∧ w'.cell? ⟨w.heap.size + 1 + 1, 0, none⟩ = some (.slice none 0 0) ∧ w'.cell? ⟨w.heap.size + 1 + 1, 1, none⟩ = some (.slice none 0 0) ∧ (∀ o, w'.frozen? ⟨w.heap.size + 1 + 1, o, none⟩ = false)) ⟨(by first | with_reducible exact B2 | (go_grown; done) | with_reducible exact bdrewN B2 _ | (go_grown <;> first | with_reducible exact bdrewN B2 _ | with_reducible exact B2)), by first | omega | (simp; done) | (simp; omega), by simp [*, go_sem], by simp [*, go_sem], by simp [*, go_sem], by simp [*, go_sem], by simp [*, go_sem], by simp [*, go_sem], fun o => by simp [*, go_sem]⟩ ?_
          clear q1 s1 t1 x1 y1 q2 s2 t2 x2 y2
          rintro w3 ⟨B3, lt3_0, c3_0, c3_1, c3_2, c3_3, c3_4, c3_5, fz3_0⟩
          have z3 : w.heap.size ≤ w3.heap.size := B3.size
          go_region_held3 (fun w' => w'.cell? ⟨w.heap.size, 0, none⟩ = some (.slice A1 ts.length c1) ∧ w'.cell? ⟨w.heap.size, 1, none⟩ = some (.slice A2 ls.length c2) ∧ w'.cell? ⟨w.heap.size + 1, 0, none⟩ = some (.slice A3 us.length c3) ∧ w'.cell? ⟨w.heap.size + 1, 1, none⟩ = some (.slice A4 ms.length c4)) (first | (go_keep; done) | (simp [*, go_sem]; done))
            (first
              | (go_at_call 46; refine (gFirst_any A3 A4 c3 _ c4 us _ (J.out.1.below (B := w.heap.size) (by first | exact Below.refl _ _ | (go_grown; done) | exact bdrewN (by go_grown) _) (Nat.le_refl _)) n1).mono ?_; rintro e w5 ⟨rfl, hb5⟩; obtain ⟨B5, hz5, q5, s5, t5, x5, y5, z5⟩ := bkeep (w := w) [w.heap.size, w.heap.size + 1, w.heap.size + 2] (by first | (simp; done) | (simp; omega)) (by first | (go_grown; done) | exact bdrewN (by go_grown) _) hb5; (try simp at hz5); clear hb5)
              | (go_at_call 47; refine (gLast_any A1 A2 c1 _ c2 ts ((ts.length : Int) - 1) _ (H.out.1.below (B := w.heap.size) (by first | exact Below.refl _ _ | (go_grown; done) | exact bdrewN (by go_grown) _) (Nat.le_refl _)) n0 rfl).mono ?_; rintro e w6 ⟨rfl, hb6⟩; obtain ⟨B6, hz6, q6, s6, t6, x6, y6, z6⟩ := bkeep (w := w) [w.heap.size, w.heap.size + 1, w.heap.size + 2] (by first | (simp; done) | (simp; omega)) (by first | (go_grown; done) | exact bdrewN (by go_grown) _) hb6; (try simp at hz6); clear hb6))
          go_wp2
          refine bodyPost_ret (by simp [results, Try.results15, go_sem, *] <;> rfl) rfl ?_
          exact ⟨⟨none, 0, none, 0, by rw [E0.out, E1.out, E2.out]; rfl, by rw [E1.out, E2.out]; exact ResP.nil _ _ _ _ _⟩, by first | exact (by first | with_reducible exact B6 | (go_grown; done) | with_reducible exact bdrewN B6 _ | (go_grown <;> first | with_reducible exact bdrewN B6 _ | with_reducible exact B6)) | exact bdrewN B6 _⟩
        · obtain ⟨e0, e1, e2⟩ := jg_ok PQ.out ho hl
          have hl' : ¬ (40 : Int) < (ts.length : Int) + us.length := by omega
          have H := Lib.hid h; have J := Lib.hid j; have E0 := Lib.hid e0; have E1 := Lib.hid e1; have E2 := Lib.hid e2; clear h j e0 e1 e2
          go_enter Try.func15, Try.ntmps15
          go_wp2_with (first | (have hq_ := B1; (go_at_call 24; refine (implIsGauge_any A3 A4 c3 c4 us ms _ ⟨(J.out.1.below (B := w.heap.size) (by first | exact Below.refl _ _ | (go_grown; done) | exact bdrewN (by go_grown) _) (Nat.le_refl _)), (J.out.2.below (B := w.heap.size) (by first | exact Below.refl _ _ | (go_grown; done) | exact bdrewN (by go_grown) _) (Nat.le_refl _))⟩).mono ?_; rintro e w2 ⟨rfl, hb2⟩; obtain ⟨B2, hz2, q2, s2, t2, x2, y2, z2⟩ := bkeep (w := w) [w.heap.size, w.heap.size + 1, w.heap.size + 2] (by first | (simp; done) | (simp; omega)) (by first | (go_grown; done) | exact bdrewN (by go_grown) _) hb2; (try simp at hz2); clear hb2)) | (go_at_call 24; refine (implIsGauge_any A1 A2 c1 c2 ts ls _ ⟨(H.out.1.below (B := w.heap.size) (by first | exact Below.refl _ _ | (go_grown; done) | exact bdrewN (by go_grown) _) (Nat.le_refl _)), (H.out.2.below (B := w.heap.size) (by first | exact Below.refl _ _ | (go_grown; done) | exact bdrewN (by go_grown) _) (Nat.le_refl _))⟩).mono ?_; rintro e w1 ⟨rfl, hb1⟩; obtain ⟨B1, hz1, q1, s1, t1, x1, y1, z1⟩ := bkeep (w := w) [w.heap.size, w.heap.size + 1, w.heap.size + 2] (by first | (simp; done) | (simp; omega)) (by first | (go_grown; done) | exact bdrewN (by go_grown) _) hb1; (try simp at hz1); clear hb1))
          refine genS (S := fun w' => Below (w.heap.size) w w' ∧ w.heap.size + 1 + 1 < w'.heap.size ∧ w'.cell? ⟨w.heap.size, 0, none⟩ = some (.slice A1 ts.length c1) ∧ w'.cell? ⟨w.heap.size, 1, none⟩ = some (.slice A2 ls.length c2) ∧ w'.cell? ⟨w.heap.size + 1, 0, none⟩ = some (.slice A3 us.length c3) ∧ w'.cell? ⟨w.heap.size + 1, 1, none⟩ = some (.slice A4 ms.length c4) ∧ w'.cell? ⟨w.heap.size + 1 + 1, 0, none⟩ = some (.slice none 0 0) ∧ w'.cell? ⟨w.heap.size + 1 + 1, 1, none⟩ = some (.slice none 0 0) ∧ (∀ o, w'.frozen? ⟨w.heap.size + 1 + 1, o, none⟩ = false)) ⟨(by first | with_reducible exact B2 | (go_grown; done) | with_reducible exact bdrewN B2 _ | (go_grown <;> first | with_reducible exact bdrewN B2 _ | with_reducible exact B2)), by first | omega | (simp; done) | (simp; omega), by simp [*, go_sem], by simp [*, go_sem], by simp [*, go_sem], by simp [*, go_sem], by simp [*, go_sem], by simp [*, go_sem], fun o => by simp [*, go_sem]⟩ ?_
          clear q1 s1 t1 x1 y1 q2 s2 t2 x2 y2
          rintro w3 ⟨B3, lt3_0, c3_0, c3_1, c3_2, c3_3, c3_4, c3_5, fz3_0⟩
          have z3 : w.heap.size ≤ w3.heap.size := B3.size
          go_region_held3 (fun w' => w'.cell? ⟨w.heap.size, 0, none⟩ = some (.slice A1 ts.length c1) ∧ w'.cell? ⟨w.heap.size, 1, none⟩ = some (.slice A2 ls.length c2) ∧ w'.cell? ⟨w.heap.size + 1, 0, none⟩ = some (.slice A3 us.length c3) ∧ w'.cell? ⟨w.heap.size + 1, 1, none⟩ = some (.slice A4 ms.length c4)) (first | (go_keep; done) | (simp [*, go_sem]; done))
            (first
              | (go_at_call 46; refine (gFirst_any A3 A4 c3 _ c4 us _ (J.out.1.below (B := w.heap.size) (by first | exact Below.refl _ _ | (go_grown; done) | exact bdrewN (by go_grown) _) (Nat.le_refl _)) n1).mono ?_; rintro e w5 ⟨rfl, hb5⟩; obtain ⟨B5, hz5, q5, s5, t5, x5, y5, z5⟩ := bkeep (w := w) [w.heap.size, w.heap.size + 1, w.heap.size + 2] (by first | (simp; done) | (simp; omega)) (by first | (go_grown; done) | exact bdrewN (by go_grown) _) hb5; (try simp at hz5); clear hb5)
              | (go_at_call 47; refine (gLast_any A1 A2 c1 _ c2 ts ((ts.length : Int) - 1) _ (H.out.1.below (B := w.heap.size) (by first | exact Below.refl _ _ | (go_grown; done) | exact bdrewN (by go_grown) _) (Nat.le_refl _)) n0 rfl).mono ?_; rintro e w6 ⟨rfl, hb6⟩; obtain ⟨B6, hz6, q6, s6, t6, x6, y6, z6⟩ := bkeep (w := w) [w.heap.size, w.heap.size + 1, w.heap.size + 2] (by first | (simp; done) | (simp; omega)) (by first | (go_grown; done) | exact bdrewN (by go_grown) _) hb6; (try simp at hz6); clear hb6))
          go_wp2_with fail
          refine genS (S := fun w' => Below (w.heap.size) w w' ∧ w.heap.size + 1 + 1 < w'.heap.size ∧ w'.cell? ⟨w.heap.size, 0, none⟩ = some (.slice A1 ts.length c1) ∧ w'.cell? ⟨w.heap.size, 1, none⟩ = some (.slice A2 ls.length c2) ∧ w'.cell? ⟨w.heap.size + 1, 0, none⟩ = some (.slice A3 us.length c3) ∧ w'.cell? ⟨w.heap.size + 1, 1, none⟩ = some (.slice A4 ms.length c4) ∧ w'.cell? ⟨w.heap.size + 1 + 1, 0, none⟩ = some (.slice none 0 0) ∧ w'.cell? ⟨w.heap.size + 1 + 1, 1, none⟩ = some (.slice none 0 0) ∧ (∀ o, w'.frozen? ⟨w.heap.size + 1 + 1, o, none⟩ = false)) ⟨by first | exact (by first | with_reducible exact B6 | (go_grown; done) | with_reducible exact bdrewN B6 _ | (go_grown <;> first | with_reducible exact bdrewN B6 _ | with_reducible exact B6)) | exact bdrewN B6 _, by first | omega | (simp; done) | (simp; omega) | (have := x6 (w.heap.size + 2) (by simp); simp; omega), by simp [*, go_sem], by simp [*, go_sem], by simp [*, go_sem], by simp [*, go_sem], by simp [*, go_sem], by simp [*, go_sem], fun o => by simp [*, go_sem]⟩ ?_
          rintro w7 ⟨B7, lt7_0, c7_0, c7_1, c7_2, c7_3, c7_4, c7_5, fz7_0⟩
          have z7 : w.heap.size ≤ w7.heap.size := B7.size
          clear c3_0 c3_1 c3_2 c3_3 c3_4 c3_5 fz3_0 lt3_0 B3 q5 s5 t5 x5 y5 q6 s6 t6 x6 y6
          have lw0 : w.heap.size < w7.heap.size := by omega
          have lw1 : w.heap.size + 1 < w7.heap.size := by omega
          have la7_0 : w.heap.size < w7.heap.size := by omega
          have lb7_0 : w.heap.size < w7.heap.size + 1 := by omega
          have lc7_0 : w.heap.size < w7.heap.size + 1 + 1 := by omega
          have la7_1 : w.heap.size + 1 < w7.heap.size := by omega
          have lb7_1 : w.heap.size + 1 < w7.heap.size + 1 := by omega
          have lc7_1 : w.heap.size + 1 < w7.heap.size + 1 + 1 := by omega
          have la7_2 : w.heap.size + 1 + 1 < w7.heap.size := by omega
          have lb7_2 : w.heap.size + 1 + 1 < w7.heap.size + 1 := by omega
          have lc7_2 : w.heap.size + 1 + 1 < w7.heap.size + 1 + 1 := by omega
          go_region_held3 (fun w' => w'.cell? ⟨w.heap.size, 0, none⟩ = some (.slice A1 ts.length c1) ∧ w'.cell? ⟨w.heap.size, 1, none⟩ = some (.slice A2 ls.length c2) ∧ w'.cell? ⟨w.heap.size + 1, 0, none⟩ = some (.slice A3 us.length c3) ∧ w'.cell? ⟨w.heap.size + 1, 1, none⟩ = some (.slice A4 ms.length c4)) (first | (go_keep; done) | (simp [*, go_sem]; done))
            (first
              | (have hq_ := B8; go_at_call 48; refine (concat_any _ _ _ _ _ _ ls ms _ (by first | omega | (simp; done) | (simp; omega)) (by simp [*, go_sem]) (by simp [*, go_sem]) (H.out.2.below (B := w.heap.size) (by first | exact Below.refl _ _ | (go_grown; done) | exact bdrewN (by go_grown) _) (Nat.le_refl _)) (J.out.2.below (B := w.heap.size) (by first | exact Below.refl _ _ | (go_grown; done) | exact bdrewN (by go_grown) _) (Nat.le_refl _)) (by omega) (by omega) (by omega) (by omega)).mono ?_; rintro e w9 ⟨⟨A9', c9', rfl, R9⟩, hb9⟩; have K9 := Lib.hid hb9; have KR9 := Lib.hid R9; clear R9; obtain ⟨B9, hz9, q9, s9, t9, x9, y9, z9⟩ := bkeep (w := w) [w.heap.size, w.heap.size + 1, w.heap.size + 2] (by first | (simp; done) | (simp; omega)) (by first | (go_grown; done) | exact bdrewN (by go_grown) _) hb9; (try simp at hz9); clear hb9; have lr9 : w.heap.size + 1 + 1 < w9.heap.size := (by have := x9 (w.heap.size + 2) (by simp); omega); have lq9 : w.heap.size + 1 + 1 < w9.heap.size + 1 := Nat.lt_succ_of_lt lr9; have ln9 : w.heap.size + 1 + 1 ≠ w9.heap.size := Nat.ne_of_lt lr9)
              | (go_at_call 48; refine (concat_any _ _ _ _ _ _ ts us _ (by first | omega | (simp; done) | (simp; omega)) (by simp [*, go_sem]) (by simp [*, go_sem]) (H.out.1.below (B := w.heap.size) (by first | exact Below.refl _ _ | (go_grown; done) | exact bdrewN (by go_grown) _) (Nat.le_refl _)) (J.out.1.below (B := w.heap.size) (by first | exact Below.refl _ _ | (go_grown; done) | exact bdrewN (by go_grown) _) (Nat.le_refl _)) (by omega) (by omega) (by omega) (by omega)).mono ?_; rintro e w8 ⟨⟨A8', c8', rfl, R8⟩, hb8⟩; refine ltcheck (c := w7.heap.size + 1) hb8 ?_ (fun hg8 => ?_); (focus (first | omega | (simp; done) | (simp; omega))); have K8 := Lib.hid hb8; have KR8 := Lib.hid R8; clear R8; obtain ⟨B8, hz8, q8, s8, t8, x8, y8, z8⟩ := bkeep (w := w) [w.heap.size, w.heap.size + 1, w.heap.size + 2, w7.heap.size, w7.heap.size + 1] (by first | (simp; done) | (simp; omega)) (by first | (go_grown; done) | exact bdrewN (by go_grown) _) hb8; (try simp at hz8); clear hb8; have lr8 : w.heap.size + 1 + 1 < w8.heap.size := (by have := x8 (w.heap.size + 2) (by simp); omega); have lq8 : w.heap.size + 1 + 1 < w8.heap.size + 1 := Nat.lt_succ_of_lt lr8; have ln8 : w.heap.size + 1 + 1 ≠ w8.heap.size := Nat.ne_of_lt lr8)
              | (go_at_call 48; refine (concat_any _ _ _ _ _ _ ts us _ (by first | omega | (simp; done) | (simp; omega)) (by simp [*, go_sem]) (by simp [*, go_sem]) (H.out.1.below (B := w.heap.size) (by first | exact Below.refl _ _ | (go_grown; done) | exact bdrewN (by go_grown) _) (Nat.le_refl _)) (J.out.1.below (B := w.heap.size) (by first | exact Below.refl _ _ | (go_grown; done) | exact bdrewN (by go_grown) _) (Nat.le_refl _)) (by omega) (by omega) (by omega) (by omega)).mono ?_; rintro e w8 ⟨⟨A8', c8', rfl, R8⟩, hb8⟩; have K8 := Lib.hid hb8; have KR8 := Lib.hid R8; clear R8; obtain ⟨B8, hz8, q8, s8, t8, x8, y8, z8⟩ := bkeep (w := w) [w.heap.size, w.heap.size + 1, w.heap.size + 2, w7.heap.size] (by first | (simp; done) | (simp; omega)) (by first | (go_grown; done) | exact bdrewN (by go_grown) _) hb8; (try simp at hz8); clear hb8; have lr8 : w.heap.size + 1 + 1 < w8.heap.size := (by have := x8 (w.heap.size + 2) (by simp); omega); have lq8 : w.heap.size + 1 + 1 < w8.heap.size + 1 := Nat.lt_succ_of_lt lr8; have ln8 : w.heap.size + 1 + 1 ≠ w8.heap.size := Nat.ne_of_lt lr8))
          all_goals have dr0 : w9.cell? ⟨w.heap.size + 1 + 1, 0, none⟩ = some (.slice none 0 0) := by simp [*, go_sem]
          all_goals have dr1 : w9.cell? ⟨w.heap.size + 1 + 1, 1, none⟩ = some (.slice none 0 0) := by simp [*, go_sem]
          all_goals have df : ∀ o, w9.frozen? ⟨w.heap.size + 1 + 1, o, none⟩ = false := fun o => by simp [*, go_sem]
          all_goals clear q8 s8 q9 s9
          all_goals go_wp2
          all_goals refine bodyPost_ret (by simp [results, Try.results15, go_sem, *] <;> rfl) rfl ?_
          all_goals refine ⟨⟨A8', c8', A9', c9', by rw [E0.out, E1.out, E2.out, List.length_append, List.length_append], ?_⟩, by first | exact (by first | with_reducible exact B9 | (go_grown; done) | with_reducible exact bdrewN B9 _ | (go_grown <;> first | with_reducible exact bdrewN B9 _ | with_reducible exact B9)) | exact bdrewN B9 _⟩
          all_goals rw [E1.out, E2.out]
          all_goals have e8 := KR8.out
          all_goals have e9 := KR9.out
          all_goals have z9' := K9.out.size
          all_goals simp only [World.size_drew, World.size_alloc, size_set] at e8 e9 z9'
          all_goals exact ResP.mk_ (mid := w8.heap.size) ((e8.kept (by repeat' (first | with_reducible exact Keep.refl _ _ _ | with_reducible refine Keep.setB ?_ ?_ _ | with_reducible refine Keep.alloc ?_ ?_ _ | with_reducible refine Keep.drew ?_ | with_reducible refine Keep.below ?_ K9.out ?_ | omega | (simp; done) | (simp; omega)))).mono (by omega) (Nat.le_refl _)) ((e9.kept (by repeat' (first | with_reducible exact Keep.refl _ _ _ | with_reducible refine Keep.setB ?_ ?_ _ | with_reducible refine Keep.alloc ?_ ?_ _ | with_reducible refine Keep.drew ?_ | with_reducible refine Keep.below ?_ K9.out ?_ | omega | (simp; done) | (simp; omega)))).mono (by omega) (by simp only [size_set]; omega)) (by omega) (by simp only [size_set]; omega)
    · have hpq : (gauB ts ls && gauB us ms) = false := by rw [hp]; simpa using hq
      have hq' : gauB us ms = false := by simpa using hq
      have e0 := jg_bad hpq
      obtain ⟨e1, e2⟩ := jg_of e0 (by omega)
      have H := Lib.hid h; have J := Lib.hid j; have E0 := Lib.hid e0; have E1 := Lib.hid e1; have E2 := Lib.hid e2; clear h j e0 e1 e2 hq hpq
      go_enter Try.func15, Try.ntmps15
      go_wp2_with (first | (have hq_ := B1; (go_at_call 24; refine (implIsGauge_any A3 A4 c3 c4 us ms _ ⟨(J.out.1.below (B := w.heap.size) (by first | exact Below.refl _ _ | (go_grown; done) | exact bdrewN (by go_grown) _) (Nat.le_refl _)), (J.out.2.below (B := w.heap.size) (by first | exact Below.refl _ _ | (go_grown; done) | exact bdrewN (by go_grown) _) (Nat.le_refl _))⟩).mono ?_; rintro e w2 ⟨rfl, hb2⟩; obtain ⟨B2, hz2, q2, s2, t2, x2, y2, z2⟩ := bkeep (w := w) [w.heap.size, w.heap.size + 1, w.heap.size + 2] (by first | (simp; done) | (simp; omega)) (by first | (go_grown; done) | exact bdrewN (by go_grown) _) hb2; (try simp at hz2); clear hb2)) | (go_at_call 24; refine (implIsGauge_any A1 A2 c1 c2 ts ls _ ⟨(H.out.1.below (B := w.heap.size) (by first | exact Below.refl _ _ | (go_grown; done) | exact bdrewN (by go_grown) _) (Nat.le_refl _)), (H.out.2.below (B := w.heap.size) (by first | exact Below.refl _ _ | (go_grown; done) | exact bdrewN (by go_grown) _) (Nat.le_refl _))⟩).mono ?_; rintro e w1 ⟨rfl, hb1⟩; obtain ⟨B1, hz1, q1, s1, t1, x1, y1, z1⟩ := bkeep (w := w) [w.heap.size, w.heap.size + 1, w.heap.size + 2] (by first | (simp; done) | (simp; omega)) (by first | (go_grown; done) | exact bdrewN (by go_grown) _) hb1; (try simp at hz1); clear hb1))
      refine bodyPost_ret (by simp [results, Try.results15, go_sem, *] <;> rfl) rfl ?_
      exact ⟨⟨none, 0, none, 0, by rw [E0.out, E1.out, E2.out]; rfl, by rw [E1.out, E2.out]; exact ResP.nil _ _ _ _ _⟩, by first | exact (by first | with_reducible exact B2 | (go_grown; done) | with_reducible exact bdrewN B2 _ | (go_grown <;> first | with_reducible exact bdrewN B2 _ | with_reducible exact B2)) | exact bdrewN B2 _⟩
  · have hp' : gauB ts ls = false := by simpa using hp
    have hpq : (gauB ts ls && gauB us ms) = false := by rw [hp']; rfl
    have e0 := jg_bad hpq
    obtain ⟨e1, e2⟩ := jg_of e0 (by omega)
    have H := Lib.hid h; have J := Lib.hid j; have E0 := Lib.hid e0; have E1 := Lib.hid e1; have E2 := Lib.hid e2; clear h j e0 e1 e2 hp hpq
    go_enter Try.func15, Try.ntmps15
    go_wp2_with (go_at_call 24; refine (implIsGauge_any A1 A2 c1 c2 ts ls _ ⟨(H.out.1.below (B := w.heap.size) (by first | exact Below.refl _ _ | (go_grown; done) | exact bdrewN (by go_grown) _) (Nat.le_refl _)), (H.out.2.below (B := w.heap.size) (by first | exact Below.refl _ _ | (go_grown; done) | exact bdrewN (by go_grown) _) (Nat.le_refl _))⟩).mono ?_; rintro e w1 ⟨rfl, hb1⟩; obtain ⟨B1, hz1, q1, s1, t1, x1, y1, z1⟩ := bkeep (w := w) [w.heap.size, w.heap.size + 1, w.heap.size + 2] (by first | (simp; done) | (simp; omega)) (by first | (go_grown; done) | exact bdrewN (by go_grown) _) hb1; (try simp at hz1); clear hb1)
    refine bodyPost_ret (by simp [results, Try.results15, go_sem, *] <;> rfl) rfl ?_
    exact ⟨⟨none, 0, none, 0, by rw [E0.out, E1.out, E2.out]; rfl, by rw [E1.out, E2.out]; exact ResP.nil _ _ _ _ _⟩, by first | exact (by first | with_reducible exact B1 | (go_grown; done) | with_reducible exact bdrewN B1 _ | (go_grown <;> first | with_reducible exact bdrewN B1 _ | with_reducible exact B1)) | exact bdrewN B1 _⟩
end Go.Proofs.Ytjabldjffpjkeaa
