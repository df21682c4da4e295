/- Two gauges joined: what JoinGauges returns, by the reference. -/
import Derived.Test.YtjabldjffpjkeaaJoin
import Derived.Test.YtjabldjffpjkeaaCut
import Derived.Deep.DeepCutAuto
namespace Go.Proofs.Ytjabldjffpjkeaa
set_option linter.unusedSimpArgs false
set_option linter.unusedVariables false
open Go.RowKit

set_option maxRecDepth 100000 in
set_option maxHeartbeats 8000000 in
theorem specJoin_any (A1 A2 A3 A4 : Option Addr) (c1 c2 c3 c4 : Nat) (ts ls us ms : List Int) (w : World) (h : ProfAt w A1 c1 A2 c2 ts ls) (j : ProfAt w A3 c3 A4 c4 us ms) :
    Calls Try.prog 16 #[profV A1 ts.length c1 A2 ls.length c2, profV A3 us.length c3 A4 ms.length c4] w fun e w' => (∃ B1 d1 B2 d2, e = .returned (.tuple #[profV B1 (jgT ts ls us ms).length d1 B2 (jgL ts ls us ms).length d2, .int .i64 (jgC ts ls us ms)]) ∧ ResP w' w.heap.size w'.heap.size B1 d1 B2 d2 (jgT ts ls us ms) (jgL ts ls us ms)) ∧ Below w.heap.size w w' := by
  by_cases hp : gauB ts ls = true
  · by_cases hq : gauB us ms = true
    · have hpq : (gauB ts ls && gauB us ms) = true := by rw [hp, hq]; rfl
      have p := gauOk_of hp; have q := gauOk_of hq
      have l1 := p.l1; have l2 := p.l2; have l3 := p.l3; have l4 := p.l4
      have k1 := q.l1; have k2 := q.l2; have k3 := q.l3; have k4 := q.l4
      have PQ := Lib.hid hpq; clear hpq p q
      have n0 : 0 < ts.length := by omega
      have n1 : 0 < us.length := by omega
      obtain ⟨b1, o1, rfl, hb1, q1'⟩ := h.1.spd (by omega)
      obtain ⟨b3, o3, rfl, hb3, q3'⟩ := j.1.spd (by omega)
      obtain ⟨b4, o4, y4', rfl, hb4, -, -⟩ := at_zero j.2 (by omega)
      have d1 := q1' (ts.length - 1) (by omega)
      rw [show ((ts.length - 1 : Nat) : Int) = (ts.length : Int) - 1 by omega] at d1
      have d3 := q3' 0 (by omega)
      have d3 : w.cell? ⟨b3, o3, none⟩ = some (.int .i64 (spd us 0)) := by simpa using d3
      clear q1' q3'
      have i0 : (0 : Int) ≤ (ts.length : Int) - 1 := by omega
      have i1 : ((ts.length : Int) - 1).toNat = ts.length - 1 := by omega
      have i2 : (ts.length : Int) - 1 < ts.length := by omega
      have i3 : (1 : Int) ≤ ts.length := by omega
      have i4 : (0 : Int) < us.length := by omega
      by_cases ho : spd us 0 ≤ spd ts ((ts.length : Int) - 1)
      · have e0 := jg_state PQ.out ho
        obtain ⟨e1, e2⟩ := jg_of e0 (by omega)
        have H := Lib.hid h; have J := Lib.hid j; have E0 := Lib.hid e0; have E1 := Lib.hid e1; have E2 := Lib.hid e2; clear h j e0 e1 e2 
        go_enter Try.func16, Try.ntmps16
        go_wp2_with (first | (have hq_ := B1; (go_at_call 49; refine (specIsGauge_any (some ⟨b3, o3, none⟩) (some ⟨b4, o4, none⟩) c3 c4 us ms _ ⟨(J.out.1.below (B := w.heap.size) (by first | exact Below.refl _ _ | (go_grown; done) | exact bdrewN (by go_grown) _) (Nat.le_refl _)), (J.out.2.below (B := w.heap.size) (by first | exact Below.refl _ _ | (go_grown; done) | exact bdrewN (by go_grown) _) (Nat.le_refl _))⟩).mono ?_; rintro e w2 ⟨rfl, hb2⟩; obtain ⟨B2, hz2, q2, s2, t2, x2, y2, z2⟩ := bkeep (w := w) [w.heap.size, w.heap.size + 1, w.heap.size + 2] (by first | (simp; done) | (simp; omega)) (by first | (go_grown; done) | exact bdrewN (by go_grown) _) hb2; (try simp at hz2); clear hb2)) | (go_at_call 49; refine (specIsGauge_any (some ⟨b1, o1, none⟩) A2 c1 c2 ts ls _ ⟨(H.out.1.below (B := w.heap.size) (by first | exact Below.refl _ _ | (go_grown; done) | exact bdrewN (by go_grown) _) (Nat.le_refl _)), (H.out.2.below (B := w.heap.size) (by first | exact Below.refl _ _ | (go_grown; done) | exact bdrewN (by go_grown) _) (Nat.le_refl _))⟩).mono ?_; rintro e w1 ⟨rfl, hb1⟩; obtain ⟨B1, hz1, q1, s1, t1, x1, y1, z1⟩ := bkeep (w := w) [w.heap.size, w.heap.size + 1, w.heap.size + 2] (by first | (simp; done) | (simp; omega)) (by first | (go_grown; done) | exact bdrewN (by go_grown) _) hb1; (try simp at hz1); clear hb1))
        refine genS (S := fun w' => Below (w.heap.size) w w' ∧ w.heap.size + 1 + 1 < w'.heap.size ∧ w'.cell? ⟨w.heap.size, 0, none⟩ = some (.slice (some ⟨b1, o1, none⟩) ts.length c1) ∧ w'.cell? ⟨w.heap.size, 1, none⟩ = some (.slice A2 ls.length c2) ∧ w'.cell? ⟨w.heap.size + 1, 0, none⟩ = some (.slice (some ⟨b3, o3, none⟩) us.length c3) ∧ w'.cell? ⟨w.heap.size + 1, 1, none⟩ = some (.slice (some ⟨b4, o4, none⟩) ms.length c4) ∧ w'.cell? ⟨w.heap.size + 1 + 1, 0, none⟩ = some (.slice none 0 0) ∧ w'.cell? ⟨w.heap.size + 1 + 1, 1, none⟩ = some (.slice none 0 0) ∧ (∀ o, w'.frozen? ⟨w.heap.size + 1 + 1, o, none⟩ = false)) ⟨(by first | with_reducible exact B2 | (go_grown; done) | with_reducible exact bdrewN B2 _ | (go_grown <;> first | with_reducible exact bdrewN B2 _ | with_reducible exact B2)), by first | omega | (simp; done) | (simp; omega), by simp [*, go_sem], by simp [*, go_sem], by simp [*, go_sem], by simp [*, go_sem], by simp [*, go_sem], by simp [*, go_sem], fun o => by simp [*, go_sem]⟩ ?_
        clear q1 s1 t1 x1 y1 q2 s2 t2 x2 y2
        rintro w3 ⟨B3, lt3_0, c3_0, c3_1, c3_2, c3_3, c3_4, c3_5, fz3_0⟩
        have z3 : w.heap.size ≤ w3.heap.size := B3.size
        have dd1 := (B3.cell (p := ⟨b1, o1 + (ts.length - 1), none⟩) hb1).trans d1
        have dd3 := (B3.cell (p := ⟨b3, o3, none⟩) hb3).trans d3
        have W0 : IntKind.i64.wrap ((ts.length : Int) - 1) = (ts.length : Int) - 1 := IntWalk.i64_in _ (by omega)
        go_quiet (fail)
        clear W0
        go_wp2
        refine bodyPost_ret (by simp [results, Try.results16, go_sem, *] <;> rfl) rfl ?_
        exact ⟨⟨none, 0, none, 0, by rw [E0.out, E1.out, E2.out]; rfl, by rw [E1.out, E2.out]; exact ResP.nil _ _ _ _ _⟩, by first | exact (by first | with_reducible exact B3 | (go_grown; done) | with_reducible exact bdrewN B3 _ | (go_grown <;> first | with_reducible exact bdrewN B3 _ | with_reducible exact B3)) | exact bdrewN B3 _⟩
      · by_cases hl : 40 < ts.length + us.length
        · have e0 := jg_lim PQ.out ho hl
          have hl' : (40 : Int) < (ts.length : Int) + us.length := by omega
          obtain ⟨e1, e2⟩ := jg_of e0 (by omega)
          have H := Lib.hid h; have J := Lib.hid j; have E0 := Lib.hid e0; have E1 := Lib.hid e1; have E2 := Lib.hid e2; clear h j e0 e1 e2 
          go_enter Try.func16, Try.ntmps16
          go_wp2_with (first | (have hq_ := B1; (go_at_call 49; refine (specIsGauge_any (some ⟨b3, o3, none⟩) (some ⟨b4, o4, none⟩) c3 c4 us ms _ ⟨(J.out.1.below (B := w.heap.size) (by first | exact Below.refl _ _ | (go_grown; done) | exact bdrewN (by go_grown) _) (Nat.le_refl _)), (J.out.2.below (B := w.heap.size) (by first | exact Below.refl _ _ | (go_grown; done) | exact bdrewN (by go_grown) _) (Nat.le_refl _))⟩).mono ?_; rintro e w2 ⟨rfl, hb2⟩; obtain ⟨B2, hz2, q2, s2, t2, x2, y2, z2⟩ := bkeep (w := w) [w.heap.size, w.heap.size + 1, w.heap.size + 2] (by first | (simp; done) | (simp; omega)) (by first | (go_grown; done) | exact bdrewN (by go_grown) _) hb2; (try simp at hz2); clear hb2)) | (go_at_call 49; refine (specIsGauge_any (some ⟨b1, o1, none⟩) A2 c1 c2 ts ls _ ⟨(H.out.1.below (B := w.heap.size) (by first | exact Below.refl _ _ | (go_grown; done) | exact bdrewN (by go_grown) _) (Nat.le_refl _)), (H.out.2.below (B := w.heap.size) (by first | exact Below.refl _ _ | (go_grown; done) | exact bdrewN (by go_grown) _) (Nat.le_refl _))⟩).mono ?_; rintro e w1 ⟨rfl, hb1⟩; obtain ⟨B1, hz1, q1, s1, t1, x1, y1, z1⟩ := bkeep (w := w) [w.heap.size, w.heap.size + 1, w.heap.size + 2] (by first | (simp; done) | (simp; omega)) (by first | (go_grown; done) | exact bdrewN (by go_grown) _) hb1; (try simp at hz1); clear hb1))
          refine genS (S := fun w' => Below (w.heap.size) w w' ∧ w.heap.size + 1 + 1 < w'.heap.size ∧ w'.cell? ⟨w.heap.size, 0, none⟩ = some (.slice (some ⟨b1, o1, none⟩) ts.length c1) ∧ w'.cell? ⟨w.heap.size, 1, none⟩ = some (.slice A2 ls.length c2) ∧ w'.cell? ⟨w.heap.size + 1, 0, none⟩ = some (.slice (some ⟨b3, o3, none⟩) us.length c3) ∧ w'.cell? ⟨w.heap.size + 1, 1, none⟩ = some (.slice (some ⟨b4, o4, none⟩) ms.length c4) ∧ w'.cell? ⟨w.heap.size + 1 + 1, 0, none⟩ = some (.slice none 0 0) ∧ w'.cell? ⟨w.heap.size + 1 + 1, 1, none⟩ = some (.slice none 0 0) ∧ (∀ o, w'.frozen? ⟨w.heap.size + 1 + 1, o, none⟩ = false)) ⟨(by first | with_reducible exact B2 | (go_grown; done) | with_reducible exact bdrewN B2 _ | (go_grown <;> first | with_reducible exact bdrewN B2 _ | with_reducible exact B2)), by first | omega | (simp; done) | (simp; omega), by simp [*, go_sem], by simp [*, go_sem], by simp [*, go_sem], by simp [*, go_sem], by simp [*, go_sem], by simp [*, go_sem], fun o => by simp [*, go_sem]⟩ ?_
          clear q1 s1 t1 x1 y1 q2 s2 t2 x2 y2
          rintro w3 ⟨B3, lt3_0, c3_0, c3_1, c3_2, c3_3, c3_4, c3_5, fz3_0⟩
          have z3 : w.heap.size ≤ w3.heap.size := B3.size
          have dd1 := (B3.cell (p := ⟨b1, o1 + (ts.length - 1), none⟩) hb1).trans d1
          have dd3 := (B3.cell (p := ⟨b3, o3, none⟩) hb3).trans d3
          have W0 : IntKind.i64.wrap ((ts.length : Int) - 1) = (ts.length : Int) - 1 := IntWalk.i64_in _ (by omega)
          go_quiet (fail)
          clear W0
          go_wp2
          refine bodyPost_ret (by simp [results, Try.results16, go_sem, *] <;> rfl) rfl ?_
          exact ⟨⟨none, 0, none, 0, by rw [E0.out, E1.out, E2.out]; rfl, by rw [E1.out, E2.out]; exact ResP.nil _ _ _ _ _⟩, by first | exact (by first | with_reducible exact B3 | (go_grown; done) | with_reducible exact bdrewN B3 _ | (go_grown <;> first | with_reducible exact bdrewN B3 _ | with_reducible exact B3)) | exact bdrewN B3 _⟩
        · obtain ⟨e0, e1, e2⟩ := jg_ok PQ.out ho hl
          have hl' : ¬ (40 : Int) < (ts.length : Int) + us.length := by omega
          have H := Lib.hid h; have J := Lib.hid j; have E0 := Lib.hid e0; have E1 := Lib.hid e1; have E2 := Lib.hid e2; clear h j e0 e1 e2
          go_enter Try.func16, Try.ntmps16
          go_wp2_with (first | (have hq_ := B1; (go_at_call 49; refine (specIsGauge_any (some ⟨b3, o3, none⟩) (some ⟨b4, o4, none⟩) c3 c4 us ms _ ⟨(J.out.1.below (B := w.heap.size) (by first | exact Below.refl _ _ | (go_grown; done) | exact bdrewN (by go_grown) _) (Nat.le_refl _)), (J.out.2.below (B := w.heap.size) (by first | exact Below.refl _ _ | (go_grown; done) | exact bdrewN (by go_grown) _) (Nat.le_refl _))⟩).mono ?_; rintro e w2 ⟨rfl, hb2⟩; obtain ⟨B2, hz2, q2, s2, t2, x2, y2, z2⟩ := bkeep (w := w) [w.heap.size, w.heap.size + 1, w.heap.size + 2] (by first | (simp; done) | (simp; omega)) (by first | (go_grown; done) | exact bdrewN (by go_grown) _) hb2; (try simp at hz2); clear hb2)) | (go_at_call 49; refine (specIsGauge_any (some ⟨b1, o1, none⟩) A2 c1 c2 ts ls _ ⟨(H.out.1.below (B := w.heap.size) (by first | exact Below.refl _ _ | (go_grown; done) | exact bdrewN (by go_grown) _) (Nat.le_refl _)), (H.out.2.below (B := w.heap.size) (by first | exact Below.refl _ _ | (go_grown; done) | exact bdrewN (by go_grown) _) (Nat.le_refl _))⟩).mono ?_; rintro e w1 ⟨rfl, hb1⟩; obtain ⟨B1, hz1, q1, s1, t1, x1, y1, z1⟩ := bkeep (w := w) [w.heap.size, w.heap.size + 1, w.heap.size + 2] (by first | (simp; done) | (simp; omega)) (by first | (go_grown; done) | exact bdrewN (by go_grown) _) hb1; (try simp at hz1); clear hb1))
          refine genS (S := fun w' => Below (w.heap.size) w w' ∧ w.heap.size + 1 + 1 < w'.heap.size ∧ w'.cell? ⟨w.heap.size, 0, none⟩ = some (.slice (some ⟨b1, o1, none⟩) ts.length c1) ∧ w'.cell? ⟨w.heap.size, 1, none⟩ = some (.slice A2 ls.length c2) ∧ w'.cell? ⟨w.heap.size + 1, 0, none⟩ = some (.slice (some ⟨b3, o3, none⟩) us.length c3) ∧ w'.cell? ⟨w.heap.size + 1, 1, none⟩ = some (.slice (some ⟨b4, o4, none⟩) ms.length c4) ∧ w'.cell? ⟨w.heap.size + 1 + 1, 0, none⟩ = some (.slice none 0 0) ∧ w'.cell? ⟨w.heap.size + 1 + 1, 1, none⟩ = some (.slice none 0 0) ∧ (∀ o, w'.frozen? ⟨w.heap.size + 1 + 1, o, none⟩ = false)) ⟨(by first | with_reducible exact B2 | (go_grown; done) | with_reducible exact bdrewN B2 _ | (go_grown <;> first | with_reducible exact bdrewN B2 _ | with_reducible exact B2)), by first | omega | (simp; done) | (simp; omega), by simp [*, go_sem], by simp [*, go_sem], by simp [*, go_sem], by simp [*, go_sem], by simp [*, go_sem], by simp [*, go_sem], fun o => by simp [*, go_sem]⟩ ?_
          clear q1 s1 t1 x1 y1 q2 s2 t2 x2 y2
          rintro w3 ⟨B3, lt3_0, c3_0, c3_1, c3_2, c3_3, c3_4, c3_5, fz3_0⟩
          have z3 : w.heap.size ≤ w3.heap.size := B3.size
          have dd1 := (B3.cell (p := ⟨b1, o1 + (ts.length - 1), none⟩) hb1).trans d1
          have dd3 := (B3.cell (p := ⟨b3, o3, none⟩) hb3).trans d3
          have W0 : IntKind.i64.wrap ((ts.length : Int) - 1) = (ts.length : Int) - 1 := IntWalk.i64_in _ (by omega)
          go_quiet (fail)
          clear W0
          go_wp2_with fail
          refine genS (S := fun w' => Below (w.heap.size) w w' ∧ w.heap.size + 1 + 1 < w'.heap.size ∧ w'.cell? ⟨w.heap.size, 0, none⟩ = some (.slice (some ⟨b1, o1, none⟩) ts.length c1) ∧ w'.cell? ⟨w.heap.size, 1, none⟩ = some (.slice A2 ls.length c2) ∧ w'.cell? ⟨w.heap.size + 1, 0, none⟩ = some (.slice (some ⟨b3, o3, none⟩) us.length c3) ∧ w'.cell? ⟨w.heap.size + 1, 1, none⟩ = some (.slice (some ⟨b4, o4, none⟩) ms.length c4) ∧ w'.cell? ⟨w.heap.size + 1 + 1, 0, none⟩ = some (.slice none 0 0) ∧ w'.cell? ⟨w.heap.size + 1 + 1, 1, none⟩ = some (.slice none 0 0) ∧ (∀ o, w'.frozen? ⟨w.heap.size + 1 + 1, o, none⟩ = false)) ⟨by first | exact (by first | with_reducible exact B3 | (go_grown; done) | with_reducible exact bdrewN B3 _ | (go_grown <;> first | with_reducible exact bdrewN B3 _ | with_reducible exact B3)) | exact bdrewN B3 _, by simpa using lt3_0, by simp [*, go_sem], by simp [*, go_sem], by simp [*, go_sem], by simp [*, go_sem], by simp [*, go_sem], by simp [*, go_sem], fun o => by simp [*, go_sem]⟩ ?_
          rintro w7 ⟨B7, lt7_0, c7_0, c7_1, c7_2, c7_3, c7_4, c7_5, fz7_0⟩
          have z7 : w.heap.size ≤ w7.heap.size := B7.size
          clear c3_0 c3_1 c3_2 c3_3 c3_4 c3_5 fz3_0 lt3_0 B3 dd1 dd3
          have lw2 : w.heap.size + 1 + 1 < w7.heap.size := by omega
          have la7_0 : w.heap.size < w7.heap.size := by omega
          have lb7_0 : w.heap.size < w7.heap.size + 1 := by omega
          have lc7_0 : w.heap.size < w7.heap.size + 1 + 1 := by omega
          have la7_1 : w.heap.size + 1 < w7.heap.size := by omega
          have lb7_1 : w.heap.size + 1 < w7.heap.size + 1 := by omega
          have lc7_1 : w.heap.size + 1 < w7.heap.size + 1 + 1 := by omega
          have la7_2 : w.heap.size + 1 + 1 < w7.heap.size := by omega
          have lb7_2 : w.heap.size + 1 + 1 < w7.heap.size + 1 := by omega
          have lc7_2 : w.heap.size + 1 + 1 < w7.heap.size + 1 + 1 := by omega
          go_region_held3 (fun w' => w'.cell? ⟨w.heap.size, 0, none⟩ = some (.slice (some ⟨b1, o1, none⟩) ts.length c1) ∧ w'.cell? ⟨w.heap.size, 1, none⟩ = some (.slice A2 ls.length c2) ∧ w'.cell? ⟨w.heap.size + 1, 0, none⟩ = some (.slice (some ⟨b3, o3, none⟩) us.length c3) ∧ w'.cell? ⟨w.heap.size + 1, 1, none⟩ = some (.slice (some ⟨b4, o4, none⟩) ms.length c4)) (first | (go_keep; done) | (simp [*, go_sem]; done))
            (first
              | (refine stepTwoL rfl _ _ rfl (w7.heap.size) (w.heap.size + 1 + 1) _ _ _ _ _ _ (us) rfl rfl (cells_of J.out.1 (by omega) (fun b' o' h' => Below.cell (p := ⟨b', o', none⟩) (B := w.heap.size) (by first | exact Below.refl _ _ | (go_grown; done) | exact bdrewN (by go_grown) _) h')) (TT.out.keep (by repeat' (first | with_reducible exact KeepX.refl _ _ _ _ | with_reducible refine KeepX.setB ?_ ?_ _ | with_reducible refine KeepX.alloc ?_ ?_ _ | with_reducible refine KeepX.drew ?_ | omega | (simp; done) | (simp; omega)))) (by first | omega | (simp; omega)) (by omega) (by first | omega | (simp; omega)) (by first | omega | (simp; omega)) ?_; intro A10' c10' w10 T10 F10; have TT := Lib.hid (T10); clear T10; obtain ⟨q10, s10, x10, y10⟩ := fkeep [w.heap.size, w.heap.size + 1, w.heap.size + 1 + 1] (by first | (simp; done) | (simp; omega)) F10; have z10 := F10.size; (try simp only [World.size_alloc, World.size_drew, size_set] at z10); have B10 : Below w.heap.size w w10 := F10.below (by first | (go_grown; done) | exact bdrewN (by go_grown) _) (by omega) (by first | omega | (simp; omega)); clear F10)
              | (refine stepTwoL rfl _ _ rfl (w7.heap.size) (w.heap.size + 1 + 1) _ _ _ _ _ _ (ms) rfl rfl (cells_of J.out.2 (by omega) (fun b' o' h' => Below.cell (p := ⟨b', o', none⟩) (B := w.heap.size) (by first | exact Below.refl _ _ | (go_grown; done) | exact bdrewN (by go_grown) _) h')) (TT.out.symm.keep (by repeat' (first | with_reducible exact KeepX.refl _ _ _ _ | with_reducible refine KeepX.setB ?_ ?_ _ | with_reducible refine KeepX.alloc ?_ ?_ _ | with_reducible refine KeepX.drew ?_ | omega | (simp; done) | (simp; omega)))) (by first | omega | (simp; omega)) (by omega) (by first | omega | (simp; omega)) (by first | omega | (simp; omega)) ?_; intro A11' c11' w11 T11 F11; have TT := Lib.hid (T11.symm); clear T11; obtain ⟨q11, s11, x11, y11⟩ := fkeep [w.heap.size, w.heap.size + 1, w.heap.size + 1 + 1] (by first | (simp; done) | (simp; omega)) F11; have z11 := F11.size; (try simp only [World.size_alloc, World.size_drew, size_set] at z11); have B11 : Below w.heap.size w w11 := F11.below (by first | (go_grown; done) | exact bdrewN (by go_grown) _) (by omega) (by first | omega | (simp; omega)); clear F11)
              | (have hq_ := TT; go_at_call 50; refine (own2_any _ _ ls _ (H.out.2.below (B := w.heap.size) (by first | exact Below.refl _ _ | (go_grown; done) | exact bdrewN (by go_grown) _) (Nat.le_refl _)) (by omega) (by omega)).mono ?_; rintro e w9 ⟨⟨A9', c9', rfl, T9⟩, hb9⟩; have TT := Lib.hid (Two.add (TT.out.keep (by repeat' (first | with_reducible exact KeepX.refl _ _ _ _ | with_reducible refine KeepX.setB ?_ ?_ _ | with_reducible refine KeepX.alloc ?_ ?_ _ | with_reducible refine KeepX.drew ?_ | omega | (simp; done) | (simp; omega)))) hb9 T9 (by first | omega | (simp; omega)) (by first | omega | (simp; omega))); clear T9; obtain ⟨B9, hz9, q9, s9, t9, x9, y9, z9⟩ := bkeep (w := w) [w.heap.size, w.heap.size + 1, w.heap.size + 2] (by first | (simp; done) | (simp; omega)) (by first | (go_grown; done) | exact bdrewN (by go_grown) _) hb9; (try simp at hz9); clear hb9)
              | (go_at_call 50; refine (own2_any _ _ ts _ (H.out.1.below (B := w.heap.size) (by first | exact Below.refl _ _ | (go_grown; done) | exact bdrewN (by go_grown) _) (Nat.le_refl _)) (by omega) (by omega)).mono ?_; rintro e w8 ⟨⟨A8', c8', rfl, T8⟩, hb8⟩; have TT := Lib.hid ((T8.down (base' := w7.heap.size) (by first | omega | (simp; done) | (simp; omega))).first (xb := w.heap.size + 1 + 1) (by omega)); clear T8; obtain ⟨B8, hz8, q8, s8, t8, x8, y8, z8⟩ := bkeep (w := w) [w.heap.size, w.heap.size + 1, w.heap.size + 2] (by first | (simp; done) | (simp; omega)) (by first | (go_grown; done) | exact bdrewN (by go_grown) _) hb8; (try simp at hz8); clear hb8))
          all_goals go_wp2
          all_goals refine bodyPost_ret (by simp [results, Try.results16, go_sem, *] <;> rfl) rfl ?_
          all_goals refine ⟨⟨_, _, _, _, by rw [E0.out, E1.out, E2.out, List.length_append, List.length_append], ?_⟩, by go_grown⟩
          all_goals rw [E1.out, E2.out]
          all_goals refine ResP.mono (lo := w7.heap.size) (Two.res (base := w7.heap.size) (xb := w.heap.size + 1 + 1) (Two.keep TT.out ?_)) (by omega) (Nat.le_refl _)
          all_goals exact (by repeat' (first | with_reducible exact KeepX.refl _ _ _ _ | with_reducible refine KeepX.setB ?_ ?_ _ | with_reducible refine KeepX.alloc ?_ ?_ _ | with_reducible refine KeepX.drew ?_ | omega | (simp; done) | (simp; omega)))
    · have hpq : (gauB ts ls && gauB us ms) = false := by rw [hp]; simpa using hq
      have hq' : gauB us ms = false := by simpa using hq
      have e0 := jg_bad hpq
      obtain ⟨e1, e2⟩ := jg_of e0 (by omega)
      have H := Lib.hid h; have J := Lib.hid j; have E0 := Lib.hid e0; have E1 := Lib.hid e1; have E2 := Lib.hid e2; clear h j e0 e1 e2 hq hpq
      go_enter Try.func16, Try.ntmps16
      go_wp2_with (first | (have hq_ := B1; (go_at_call 49; refine (specIsGauge_any A3 A4 c3 c4 us ms _ ⟨(J.out.1.below (B := w.heap.size) (by first | exact Below.refl _ _ | (go_grown; done) | exact bdrewN (by go_grown) _) (Nat.le_refl _)), (J.out.2.below (B := w.heap.size) (by first | exact Below.refl _ _ | (go_grown; done) | exact bdrewN (by go_grown) _) (Nat.le_refl _))⟩).mono ?_; rintro e w2 ⟨rfl, hb2⟩; obtain ⟨B2, hz2, q2, s2, t2, x2, y2, z2⟩ := bkeep (w := w) [w.heap.size, w.heap.size + 1, w.heap.size + 2] (by first | (simp; done) | (simp; omega)) (by first | (go_grown; done) | exact bdrewN (by go_grown) _) hb2; (try simp at hz2); clear hb2)) | (go_at_call 49; refine (specIsGauge_any A1 A2 c1 c2 ts ls _ ⟨(H.out.1.below (B := w.heap.size) (by first | exact Below.refl _ _ | (go_grown; done) | exact bdrewN (by go_grown) _) (Nat.le_refl _)), (H.out.2.below (B := w.heap.size) (by first | exact Below.refl _ _ | (go_grown; done) | exact bdrewN (by go_grown) _) (Nat.le_refl _))⟩).mono ?_; rintro e w1 ⟨rfl, hb1⟩; obtain ⟨B1, hz1, q1, s1, t1, x1, y1, z1⟩ := bkeep (w := w) [w.heap.size, w.heap.size + 1, w.heap.size + 2] (by first | (simp; done) | (simp; omega)) (by first | (go_grown; done) | exact bdrewN (by go_grown) _) hb1; (try simp at hz1); clear hb1))
      refine bodyPost_ret (by simp [results, Try.results16, go_sem, *] <;> rfl) rfl ?_
      exact ⟨⟨none, 0, none, 0, by rw [E0.out, E1.out, E2.out]; rfl, by rw [E1.out, E2.out]; exact ResP.nil _ _ _ _ _⟩, by first | exact (by first | with_reducible exact B2 | (go_grown; done) | with_reducible exact bdrewN B2 _ | (go_grown <;> first | with_reducible exact bdrewN B2 _ | with_reducible exact B2)) | exact bdrewN B2 _⟩
  · have hp' : gauB ts ls = false := by simpa using hp
    have hpq : (gauB ts ls && gauB us ms) = false := by rw [hp']; rfl
    have e0 := jg_bad hpq
    obtain ⟨e1, e2⟩ := jg_of e0 (by omega)
    have H := Lib.hid h; have J := Lib.hid j; have E0 := Lib.hid e0; have E1 := Lib.hid e1; have E2 := Lib.hid e2; clear h j e0 e1 e2 hp hpq
    go_enter Try.func16, Try.ntmps16
    go_wp2_with (go_at_call 49; refine (specIsGauge_any A1 A2 c1 c2 ts ls _ ⟨(H.out.1.below (B := w.heap.size) (by first | exact Below.refl _ _ | (go_grown; done) | exact bdrewN (by go_grown) _) (Nat.le_refl _)), (H.out.2.below (B := w.heap.size) (by first | exact Below.refl _ _ | (go_grown; done) | exact bdrewN (by go_grown) _) (Nat.le_refl _))⟩).mono ?_; rintro e w1 ⟨rfl, hb1⟩; obtain ⟨B1, hz1, q1, s1, t1, x1, y1, z1⟩ := bkeep (w := w) [w.heap.size, w.heap.size + 1, w.heap.size + 2] (by first | (simp; done) | (simp; omega)) (by first | (go_grown; done) | exact bdrewN (by go_grown) _) hb1; (try simp at hz1); clear hb1)
    refine bodyPost_ret (by simp [results, Try.results16, go_sem, *] <;> rfl) rfl ?_
    exact ⟨⟨none, 0, none, 0, by rw [E0.out, E1.out, E2.out]; rfl, by rw [E1.out, E2.out]; exact ResP.nil _ _ _ _ _⟩, by first | exact (by first | with_reducible exact B1 | (go_grown; done) | with_reducible exact bdrewN B1 _ | (go_grown <;> first | with_reducible exact bdrewN B1 _ | with_reducible exact B1)) | exact bdrewN B1 _⟩
end Go.Proofs.Ytjabldjffpjkeaa
