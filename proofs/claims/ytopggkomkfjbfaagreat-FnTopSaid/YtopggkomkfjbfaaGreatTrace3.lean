/- The trace of a ray with its code, by the program; the last state of a trace. -/
import Derived.Test.YtopggkomkfjbfaaGreatTrace2
import Derived.BigRegion
namespace Go.Proofs.YtopggkomkfjbfaaGreat
set_option linter.unusedSimpArgs false
set_option linter.unusedVariables false
open Go.RowKit

/-- the code of a trace of n events -/
@[irreducible] def trCo (ds ss : List Int) (src co si hy n : Int) : Int := if rayE ds ss src co si hy 0 = 0 then (if inB n 0 100 then rsC ds ss src co hy (rs0 src si) n.toNat else 2) else rayE ds ss src co si hy 0
theorem trCo_zero {ds ss : List Int} {src co si hy n : Int} (h : trCo ds ss src co si hy n = 0) : RayOk ds ss src co si hy ∧ (∃ m : Nat, n = m ∧ m ≤ 100 ∧ rsC ds ss src co hy (rs0 src si) m = 0) := by
  unfold trCo at h
  by_cases h0 : rayE ds ss src co si hy 0 = 0
  · rw [if_pos h0] at h
    rcases Bool.eq_false_or_eq_true (inB n 0 100) with hi | hi
    · rw [hi, if_pos rfl] at h
      obtain ⟨a, b⟩ := inB_bd hi
      exact ⟨rayOk_zero h0, n.toNat, by omega, by omega, h⟩
    · rw [hi] at h
      exact absurd h (by simp)
  · rw [if_neg h0] at h; exact absurd h h0
theorem trCo_ray {ds ss : List Int} {src co si hy n : Int} (h : rayE ds ss src co si hy 0 ≠ 0) : trCo ds ss src co si hy n = rayE ds ss src co si hy 0 := by unfold trCo; rw [if_neg h]
theorem trCo_out {ds ss : List Int} {src co si hy n : Int} (h : rayE ds ss src co si hy 0 = 0) (hi : inB n 0 100 = false) : trCo ds ss src co si hy n = 2 := by unfold trCo; rw [if_pos h, hi]; rfl
theorem trCo_in {ds ss : List Int} {src co si hy : Int} {m : Nat} (h : rayE ds ss src co si hy 0 = 0) (hi : m ≤ 100) : trCo ds ss src co si hy m = rsC ds ss src co hy (rs0 src si) m := by
  unfold trCo
  have e : inB (m : Int) 0 100 = true := by simp [inB]; omega
  rw [if_pos h, e, if_pos rfl, Int.toNat_natCast]

theorem implTrace_ok (A1 A2 : Option Addr) (c1 c2 : Nat) (ds ss : List Int) (src co si hy : Int) (n : Nat) (w : World) (h : ProfAt w A1 c1 A2 c2 ds ss) (r : RayOk ds ss src co si hy) (hn : n ≤ 100) (hc : rsC ds ss src co hy (rs0 src si) n = 0) :
    Calls Tryz.prog 42 #[rayV A1 ds.length c1 A2 ss.length c2 src co si hy, .int .i64 n] w fun e w' =>
      (∃ Ae ce As cs Ad cd, e = .returned (.tuple #[trV (.slice Ae n ce) (.slice As n cs) (.slice Ad n cd), .int .i64 0]) ∧
          ResI w' w.heap.size w'.heap.size Ae ce (trE ds ss src co hy (rs0 src si) n) ∧ ResK w' w.heap.size w'.heap.size As cs 4 ((trS ds ss src co hy (rs0 src si) n).map rsCell) ∧ ResK w' w.heap.size w'.heap.size Ad cd 2 ((trA ds ss src co hy (rs0 src si) n).map ivCell)) ∧ Below w.heap.size w w' := by
  refine (implTrace_any A1 A2 c1 c2 ds ss src co si hy n w h r hn).mono ?_
  rintro e w' ⟨⟨-, g⟩ | ⟨g, -⟩, b⟩
  · exact ⟨g, b⟩
  · exact absurd hc g
theorem implTrace_no (A1 A2 : Option Addr) (c1 c2 : Nat) (ds ss : List Int) (src co si hy : Int) (n : Nat) (w : World) (h : ProfAt w A1 c1 A2 c2 ds ss) (r : RayOk ds ss src co si hy) (hn : n ≤ 100) (hc : rsC ds ss src co hy (rs0 src si) n ≠ 0) :
    Calls Tryz.prog 42 #[rayV A1 ds.length c1 A2 ss.length c2 src co si hy, .int .i64 n] w fun e w' =>
      e = .returned (.tuple #[trV (.slice none 0 0) (.slice none 0 0) (.slice none 0 0), .int .i64 (rsC ds ss src co hy (rs0 src si) n)]) ∧ Below w.heap.size w w' := by
  refine (implTrace_any A1 A2 c1 c2 ds ss src co si hy n w h r hn).mono ?_
  rintro e w' ⟨⟨g, -⟩ | ⟨-, g⟩, b⟩
  · exact absurd g hc
  · exact ⟨g, b⟩
theorem specTrace_ok (A1 A2 : Option Addr) (c1 c2 : Nat) (ds ss : List Int) (src co si hy : Int) (n : Nat) (w : World) (h : ProfAt w A1 c1 A2 c2 ds ss) (r : RayOk ds ss src co si hy) (hn : n ≤ 100) (hc : rsC ds ss src co hy (rs0 src si) n = 0) :
    Calls Tryz.prog 76 #[profV A1 ds.length c1 A2 ss.length c2, .int .i64 src, dirV co si hy, .int .i64 n] w fun e w' =>
      (∃ As cs Ae ce, e = .returned (.tuple #[.slice As n cs, .slice Ae n ce, .int .i64 0]) ∧
          ResK w' w.heap.size w'.heap.size As cs 4 ((trS ds ss src co hy (rs0 src si) n).map rsCell) ∧ ResI w' w.heap.size w'.heap.size Ae ce (trE ds ss src co hy (rs0 src si) n)) ∧ Below w.heap.size w w' := by
  refine (specTrace_any A1 A2 c1 c2 ds ss src co si hy n w h r hn).mono ?_
  rintro e w' ⟨⟨-, g⟩ | ⟨g, -⟩, b⟩
  · exact ⟨g, b⟩
  · exact absurd hc g
theorem specTrace_no (A1 A2 : Option Addr) (c1 c2 : Nat) (ds ss : List Int) (src co si hy n : Int) (w : World) (h : ProfAt w A1 c1 A2 c2 ds ss) (hc : trCo ds ss src co si hy n ≠ 0) :
    Calls Tryz.prog 76 #[profV A1 ds.length c1 A2 ss.length c2, .int .i64 src, dirV co si hy, .int .i64 n] w fun e w' =>
      e = .returned (.tuple #[.slice none 0 0, .slice none 0 0, .int .i64 (trCo ds ss src co si hy n)]) ∧ Below w.heap.size w w' := by
  by_cases h0 : rayE ds ss src co si hy 0 = 0
  · rcases Bool.eq_false_or_eq_true (inB n 0 100) with hi | hi
    · obtain ⟨a, b⟩ := inB_bd hi
      obtain ⟨m, rfl⟩ : ∃ m : Nat, n = m := ⟨n.toNat, by omega⟩
      rw [trCo_in h0 (by omega)] at hc ⊢
      refine (specTrace_any A1 A2 c1 c2 ds ss src co si hy m w h (rayOk_zero h0) (by omega)).mono ?_
      rintro e w' ⟨⟨g, -⟩ | ⟨-, g⟩, b⟩
      · exact absurd g hc
      · exact ⟨g, b⟩
    · have := specTrace_bad A1 A2 c1 c2 ds ss src co si hy n w h (fun g => by rw [hi] at g; cases g.2)
      rw [if_pos h0] at this
      rw [trCo_out h0 hi]
      exact this
  · have := specTrace_bad A1 A2 c1 c2 ds ss src co si hy n w h (fun g => h0 g.1)
    rw [if_neg h0] at this
    rw [trCo_ray h0]
    exact this

set_option maxHeartbeats 4000000 in
theorem traceOf_ok (A1 A2 : Option Addr) (c1 c2 : Nat) (ds ss : List Int) (src co si hy : Int) (n : Nat) (w : World) (h : ProfAt w A1 c1 A2 c2 ds ss) (r : RayOk ds ss src co si hy) (hn : n ≤ 100) (hc : rsC ds ss src co hy (rs0 src si) n = 0) :
    Calls Tryz.prog 31 #[profV A1 ds.length c1 A2 ss.length c2, .int .i64 src, dirV co si hy, .int .i64 n] w fun e w' =>
      (∃ Ae ce As cs Ad cd, e = .returned (.tuple #[rayV A1 ds.length c1 A2 ss.length c2 src co si hy, trV (.slice Ae n ce) (.slice As n cs) (.slice Ad n cd), .int .i64 0]) ∧
          ResI w' w.heap.size w'.heap.size Ae ce (trE ds ss src co hy (rs0 src si) n) ∧ ResK w' w.heap.size w'.heap.size As cs 4 ((trS ds ss src co hy (rs0 src si) n).map rsCell) ∧ ResK w' w.heap.size w'.heap.size Ad cd 2 ((trA ds ss src co hy (rs0 src si) n).map ivCell)) ∧ Below w.heap.size w w' := by
  have hin : inB n 0 100 = true := by simp [inB]; omega
  have H := Lib.hid h; have R := Lib.hid r; have HC := Lib.hid hc; clear h r hc
  go_enter Tryz.func31, Tryz.ntmps31
  go_upto_region 7 with (first
    | (go_at_call 56; refine (newRay_ok _ _ _ _ _ _ _ _ _ _ _ ⟨(H.out.1.below (B := w.heap.size) (by first | exact Below.refl _ _ | (go_grown; done) | exact bdrewN (by go_grown) _) (Nat.le_refl _)), (H.out.2.below (B := w.heap.size) (by first | exact Below.refl _ _ | (go_grown; done) | exact bdrewN (by go_grown) _) (Nat.le_refl _))⟩ R.out).mono ?_; rintro e w1 ⟨rfl, hb1⟩; obtain ⟨B1, hz1, q1, s1, t1, x1, y1, z1⟩ := bkeep (w := w) [w.heap.size, w.heap.size + 1, w.heap.size+1+1, w.heap.size+1+1+1] (by first | (simp; done) | (simp; omega)) (by first | (go_grown; done) | exact bdrewN (by go_grown) _) hb1; (try simp at hz1); clear hb1)
    | (go_at_call 25; refine (within_any _ _ _ _).mono ?_; rintro e w' ⟨rfl, rfl⟩)
    | (go_at_call 42; refine (implTrace_ok _ _ _ _ _ _ _ _ _ _ _ _ ⟨(H.out.1.below (B := w.heap.size) (by first | exact Below.refl _ _ | (go_grown; done) | exact bdrewN (by go_grown) _) (Nat.le_refl _)), (H.out.2.below (B := w.heap.size) (by first | exact Below.refl _ _ | (go_grown; done) | exact bdrewN (by go_grown) _) (Nat.le_refl _))⟩ R.out hn HC.out).mono ?_; rintro e w2 ⟨⟨Ae, ce, As, cs, Ad, cd, rfl, R1, R2, R3⟩, hb2⟩; have V1 := Lib.hid (R1.mono (show w1.heap.size + 1 ≤ _ by first | (simp; done) | (simp; omega)) (Nat.le_refl _)); have V2 := Lib.hid (R2.mono (show w1.heap.size + 1 ≤ _ by first | (simp; done) | (simp; omega)) (Nat.le_refl _)); have V3 := Lib.hid (R3.mono (show w1.heap.size + 1 ≤ _ by first | (simp; done) | (simp; omega)) (Nat.le_refl _)); clear R1 R2 R3; obtain ⟨B2, hz2, q2, s2, t2, x2, y2, z2⟩ := bkeep (w := w) [w.heap.size, w.heap.size + 1, w.heap.size+1+1, w.heap.size+1+1+1, w1.heap.size] (by first | (simp; done) | (simp; omega)) (by first | (go_grown; done) | exact bdrewN (by go_grown) _) hb2; (try simp at hz2); clear hb2))
  have ne1 : w.heap.size ≠ w1.heap.size := by omega
  have nf1 : w1.heap.size ≠ w.heap.size := by omega
  have ne2 : w.heap.size ≠ w2.heap.size := by omega
  have nf2 : w2.heap.size ≠ w.heap.size := by omega
  have ne3 : w.heap.size + 1 ≠ w1.heap.size := by omega
  have nf3 : w1.heap.size ≠ w.heap.size + 1 := by omega
  have ne4 : w.heap.size + 1 ≠ w2.heap.size := by omega
  have nf4 : w2.heap.size ≠ w.heap.size + 1 := by omega
  have ne5 : w.heap.size + 1 + 1 ≠ w1.heap.size := by omega
  have nf5 : w1.heap.size ≠ w.heap.size + 1 + 1 := by omega
  have ne6 : w.heap.size + 1 + 1 ≠ w2.heap.size := by omega
  have nf6 : w2.heap.size ≠ w.heap.size + 1 + 1 := by omega
  have ne7 : w.heap.size + 1 + 1 + 1 ≠ w1.heap.size := by omega
  have nf7 : w1.heap.size ≠ w.heap.size + 1 + 1 + 1 := by omega
  have ne8 : w.heap.size + 1 + 1 + 1 ≠ w2.heap.size := by omega
  have nf8 : w2.heap.size ≠ w.heap.size + 1 + 1 + 1 := by omega
  have ne9 : w1.heap.size ≠ w2.heap.size := by omega
  have nf9 : w2.heap.size ≠ w1.heap.size := by omega
  refine genS (S := fun w' => Below (w.heap.size) w w' ∧ w.heap.size + 1 + 1 < w'.heap.size ∧ w.heap.size + 1 + 1 + 1 < w'.heap.size ∧ w1.heap.size < w'.heap.size ∧ w2.heap.size < w'.heap.size ∧ w'.cell? ⟨w.heap.size + 1 + 1, 0, none⟩ = some (.slice none 0 0) ∧ w'.cell? ⟨w.heap.size + 1 + 1, 1, none⟩ = some (.slice none 0 0) ∧ w'.cell? ⟨w.heap.size + 1 + 1, 2, none⟩ = some (.int .i64 0) ∧ w'.cell? ⟨w.heap.size + 1 + 1, 3, none⟩ = some (.int .i64 0) ∧ w'.cell? ⟨w.heap.size + 1 + 1, 4, none⟩ = some (.int .i64 0) ∧ w'.cell? ⟨w.heap.size + 1 + 1, 5, none⟩ = some (.int .i64 0) ∧ w'.cell? ⟨w.heap.size + 1 + 1 + 1, 0, none⟩ = some (.slice none 0 0) ∧ w'.cell? ⟨w.heap.size + 1 + 1 + 1, 1, none⟩ = some (.slice none 0 0) ∧ w'.cell? ⟨w.heap.size + 1 + 1 + 1, 2, none⟩ = some (.slice none 0 0) ∧ w'.cell? ⟨w1.heap.size, 0, none⟩ = some (.slice A1 ds.length c1) ∧ w'.cell? ⟨w1.heap.size, 1, none⟩ = some (.slice A2 ss.length c2) ∧ w'.cell? ⟨w1.heap.size, 2, none⟩ = some (.int .i64 src) ∧ w'.cell? ⟨w1.heap.size, 3, none⟩ = some (.int .i64 co) ∧ w'.cell? ⟨w1.heap.size, 4, none⟩ = some (.int .i64 si) ∧ w'.cell? ⟨w1.heap.size, 5, none⟩ = some (.int .i64 hy) ∧ w'.cell? ⟨w2.heap.size, 0, none⟩ = some (.slice Ae n ce) ∧ w'.cell? ⟨w2.heap.size, 1, none⟩ = some (.slice As n cs) ∧ w'.cell? ⟨w2.heap.size, 2, none⟩ = some (.slice Ad n cd) ∧ (∀ o, w'.frozen? ⟨w.heap.size + 1 + 1, o, none⟩ = false) ∧ (∀ o, w'.frozen? ⟨w.heap.size + 1 + 1 + 1, o, none⟩ = false) ∧ ResI w' (w1.heap.size + 1) w2.heap.size Ae ce (trE ds ss src co hy (rs0 src si) n) ∧ ResK w' (w1.heap.size + 1) w2.heap.size As cs 4 ((trS ds ss src co hy (rs0 src si) n).map rsCell) ∧ ResK w' (w1.heap.size + 1) w2.heap.size Ad cd 2 ((trA ds ss src co hy (rs0 src si) n).map ivCell)) ⟨(by first | with_reducible exact B2 | (go_grown; done) | with_reducible exact bdrewN B2 _ | (go_grown <;> first | with_reducible exact bdrewN B2 _ | with_reducible exact B2)), by first | omega | (simp; done) | (simp; omega), by first | omega | (simp; done) | (simp; omega), by first | omega | (simp; done) | (simp; omega), by first | omega | (simp; done) | (simp; omega), by simp [*, go_sem], by simp [*, go_sem], by simp [*, go_sem], by simp [*, go_sem], by simp [*, go_sem], by simp [*, go_sem], by simp [*, go_sem], by simp [*, go_sem], by simp [*, go_sem], by simp [*, go_sem], by simp [*, go_sem], by simp [*, go_sem], by simp [*, go_sem], by simp [*, go_sem], by simp [*, go_sem], by simp [*, go_sem], by simp [*, go_sem], by simp [*, go_sem], fun o => by simp [*, go_sem], fun o => by simp [*, go_sem], V1.out.kept (by repeat' (first | with_reducible exact Keep.refl _ _ _ | with_reducible refine Keep.setB ?_ ?_ _ | with_reducible refine Keep.alloc ?_ ?_ _ | with_reducible refine Keep.drew ?_ | omega | (simp; done) | (simp; omega))), V2.out.keep (by repeat' (first | with_reducible exact Keep.refl _ _ _ | with_reducible refine Keep.setB ?_ ?_ _ | with_reducible refine Keep.alloc ?_ ?_ _ | with_reducible refine Keep.drew ?_ | omega | (simp; done) | (simp; omega))), V3.out.keep (by repeat' (first | with_reducible exact Keep.refl _ _ _ | with_reducible refine Keep.setB ?_ ?_ _ | with_reducible refine Keep.alloc ?_ ?_ _ | with_reducible refine Keep.drew ?_ | omega | (simp; done) | (simp; omega)))⟩ ?_
  clear q1 s1 t1 x1 y1 q2 s2 t2 x2 y2 V1 V2 V3
  rintro w3 ⟨B3, lt3_0, lt3_1, lt3_2, lt3_3, c3_0, c3_1, c3_2, c3_3, c3_4, c3_5, c3_6, c3_7, c3_8, c3_9, c3_10, c3_11, c3_12, c3_13, c3_14, c3_15, c3_16, c3_17, fz3_0, fz3_1, G1, G2, G3⟩
  have z3 : w.heap.size ≤ w3.heap.size := B3.size
  have U1 := Lib.hid G1; have U2 := Lib.hid G2; have U3 := Lib.hid G3; clear G1 G2 G3
  go_region
  go_wp2
  refine bodyPost_ret (by simp [results, Tryz.results31, go_sem, *] <;> rfl) rfl ?_
  refine ⟨⟨Ae, ce, As, cs, Ad, cd, rfl, ?_, ?_, ?_⟩, ?_⟩
  · refine ResI.mono (U1.out.kept ?_) (show w.heap.size ≤ w1.heap.size + 1 by omega) ?_
    · exact (by repeat' (first | with_reducible exact Keep.refl _ _ _ | with_reducible refine Keep.setB ?_ ?_ _ | with_reducible refine Keep.alloc ?_ ?_ _ | with_reducible refine Keep.drew ?_ | omega | (simp; done) | (simp; omega)))
    · first | omega | (simp; done) | (simp; omega)
  · refine ResK.mono (U2.out.keep ?_) (show w.heap.size ≤ w1.heap.size + 1 by omega) ?_
    · exact (by repeat' (first | with_reducible exact Keep.refl _ _ _ | with_reducible refine Keep.setB ?_ ?_ _ | with_reducible refine Keep.alloc ?_ ?_ _ | with_reducible refine Keep.drew ?_ | omega | (simp; done) | (simp; omega)))
    · first | omega | (simp; done) | (simp; omega)
  · refine ResK.mono (U3.out.keep ?_) (show w.heap.size ≤ w1.heap.size + 1 by omega) ?_
    · exact (by repeat' (first | with_reducible exact Keep.refl _ _ _ | with_reducible refine Keep.setB ?_ ?_ _ | with_reducible refine Keep.alloc ?_ ?_ _ | with_reducible refine Keep.drew ?_ | omega | (simp; done) | (simp; omega)))
    · first | omega | (simp; done) | (simp; omega)
  · go_grown
set_option maxHeartbeats 4000000 in
theorem traceOf_no (A1 A2 : Option Addr) (c1 c2 : Nat) (ds ss : List Int) (src co si hy n : Int) (w : World) (h : ProfAt w A1 c1 A2 c2 ds ss) (hc : trCo ds ss src co si hy n ≠ 0) :
    Calls Tryz.prog 31 #[profV A1 ds.length c1 A2 ss.length c2, .int .i64 src, dirV co si hy, .int .i64 n] w fun e w' =>
      (∃ B1 n1 e1 B2 n2 e2 s c i y, e = .returned (.tuple #[rayV B1 n1 e1 B2 n2 e2 s c i y, trV (.slice none 0 0) (.slice none 0 0) (.slice none 0 0), .int .i64 (trCo ds ss src co si hy n)])) ∧ Below w.heap.size w w' := by
  by_cases h0 : rayE ds ss src co si hy 0 = 0
  · rcases Bool.eq_false_or_eq_true (inB n 0 100) with hi | hi
    · obtain ⟨a, b⟩ := inB_bd hi
      obtain ⟨m, rfl⟩ : ∃ m : Nat, n = m := ⟨n.toNat, by omega⟩
      rw [trCo_in h0 (by omega)] at hc ⊢
      have r := rayOk_zero h0
      have hm : m ≤ 100 := by omega
      have H := Lib.hid h; have R := Lib.hid r; have HC := Lib.hid hc; clear h r hc h0
      go_enter Tryz.func31, Tryz.ntmps31
      go_upto_region 7 with (first
        | (go_at_call 56; refine (newRay_ok _ _ _ _ _ _ _ _ _ _ _ ⟨(H.out.1.below (B := w.heap.size) (by first | exact Below.refl _ _ | (go_grown; done) | exact bdrewN (by go_grown) _) (Nat.le_refl _)), (H.out.2.below (B := w.heap.size) (by first | exact Below.refl _ _ | (go_grown; done) | exact bdrewN (by go_grown) _) (Nat.le_refl _))⟩ R.out).mono ?_; rintro e w1 ⟨rfl, hb1⟩; obtain ⟨B1, hz1, q1, s1, t1, x1, y1, z1⟩ := bkeep (w := w) [w.heap.size, w.heap.size + 1, w.heap.size+1+1, w.heap.size+1+1+1] (by first | (simp; done) | (simp; omega)) (by first | (go_grown; done) | exact bdrewN (by go_grown) _) hb1; (try simp at hz1); clear hb1)
        | (go_at_call 25; refine (within_any _ _ _ _).mono ?_; rintro e w' ⟨rfl, rfl⟩)
        | (go_at_call 42; refine (implTrace_no _ _ _ _ _ _ _ _ _ _ _ _ ⟨(H.out.1.below (B := w.heap.size) (by first | exact Below.refl _ _ | (go_grown; done) | exact bdrewN (by go_grown) _) (Nat.le_refl _)), (H.out.2.below (B := w.heap.size) (by first | exact Below.refl _ _ | (go_grown; done) | exact bdrewN (by go_grown) _) (Nat.le_refl _))⟩ R.out hm HC.out).mono ?_; rintro e w2 ⟨rfl, hb2⟩; obtain ⟨B2, hz2, q2, s2, t2, x2, y2, z2⟩ := bkeep (w := w) [w.heap.size, w.heap.size + 1, w.heap.size+1+1, w.heap.size+1+1+1, w1.heap.size] (by first | (simp; done) | (simp; omega)) (by first | (go_grown; done) | exact bdrewN (by go_grown) _) hb2; (try simp at hz2); clear hb2))
      have ne1 : w.heap.size ≠ w1.heap.size := by omega
      have nf1 : w1.heap.size ≠ w.heap.size := by omega
      have ne2 : w.heap.size ≠ w2.heap.size := by omega
      have nf2 : w2.heap.size ≠ w.heap.size := by omega
      have ne3 : w.heap.size + 1 ≠ w1.heap.size := by omega
      have nf3 : w1.heap.size ≠ w.heap.size + 1 := by omega
      have ne4 : w.heap.size + 1 ≠ w2.heap.size := by omega
      have nf4 : w2.heap.size ≠ w.heap.size + 1 := by omega
      have ne5 : w.heap.size + 1 + 1 ≠ w1.heap.size := by omega
      have nf5 : w1.heap.size ≠ w.heap.size + 1 + 1 := by omega
      have ne6 : w.heap.size + 1 + 1 ≠ w2.heap.size := by omega
      have nf6 : w2.heap.size ≠ w.heap.size + 1 + 1 := by omega
      have ne7 : w.heap.size + 1 + 1 + 1 ≠ w1.heap.size := by omega
      have nf7 : w1.heap.size ≠ w.heap.size + 1 + 1 + 1 := by omega
      have ne8 : w.heap.size + 1 + 1 + 1 ≠ w2.heap.size := by omega
      have nf8 : w2.heap.size ≠ w.heap.size + 1 + 1 + 1 := by omega
      have ne9 : w1.heap.size ≠ w2.heap.size := by omega
      have nf9 : w2.heap.size ≠ w1.heap.size := by omega
      refine genS (S := fun w' => Below (w.heap.size) w w' ∧ w.heap.size + 1 + 1 < w'.heap.size ∧ w.heap.size + 1 + 1 + 1 < w'.heap.size ∧ w1.heap.size < w'.heap.size ∧ w2.heap.size < w'.heap.size ∧ w'.cell? ⟨w.heap.size + 1 + 1, 0, none⟩ = some (.slice none 0 0) ∧ w'.cell? ⟨w.heap.size + 1 + 1, 1, none⟩ = some (.slice none 0 0) ∧ w'.cell? ⟨w.heap.size + 1 + 1, 2, none⟩ = some (.int .i64 0) ∧ w'.cell? ⟨w.heap.size + 1 + 1, 3, none⟩ = some (.int .i64 0) ∧ w'.cell? ⟨w.heap.size + 1 + 1, 4, none⟩ = some (.int .i64 0) ∧ w'.cell? ⟨w.heap.size + 1 + 1, 5, none⟩ = some (.int .i64 0) ∧ w'.cell? ⟨w.heap.size + 1 + 1 + 1, 0, none⟩ = some (.slice none 0 0) ∧ w'.cell? ⟨w.heap.size + 1 + 1 + 1, 1, none⟩ = some (.slice none 0 0) ∧ w'.cell? ⟨w.heap.size + 1 + 1 + 1, 2, none⟩ = some (.slice none 0 0) ∧ w'.cell? ⟨w1.heap.size, 0, none⟩ = some (.slice A1 ds.length c1) ∧ w'.cell? ⟨w1.heap.size, 1, none⟩ = some (.slice A2 ss.length c2) ∧ w'.cell? ⟨w1.heap.size, 2, none⟩ = some (.int .i64 src) ∧ w'.cell? ⟨w1.heap.size, 3, none⟩ = some (.int .i64 co) ∧ w'.cell? ⟨w1.heap.size, 4, none⟩ = some (.int .i64 si) ∧ w'.cell? ⟨w1.heap.size, 5, none⟩ = some (.int .i64 hy) ∧ w'.cell? ⟨w2.heap.size, 0, none⟩ = some (.slice none 0 0) ∧ w'.cell? ⟨w2.heap.size, 1, none⟩ = some (.slice none 0 0) ∧ w'.cell? ⟨w2.heap.size, 2, none⟩ = some (.slice none 0 0) ∧ (∀ o, w'.frozen? ⟨w.heap.size + 1 + 1, o, none⟩ = false) ∧ (∀ o, w'.frozen? ⟨w.heap.size + 1 + 1 + 1, o, none⟩ = false)) ⟨(by first | with_reducible exact B2 | (go_grown; done) | with_reducible exact bdrewN B2 _ | (go_grown <;> first | with_reducible exact bdrewN B2 _ | with_reducible exact B2)), by first | omega | (simp; done) | (simp; omega), by first | omega | (simp; done) | (simp; omega), by first | omega | (simp; done) | (simp; omega), by first | omega | (simp; done) | (simp; omega), by simp [*, go_sem], by simp [*, go_sem], by simp [*, go_sem], by simp [*, go_sem], by simp [*, go_sem], by simp [*, go_sem], by simp [*, go_sem], by simp [*, go_sem], by simp [*, go_sem], by simp [*, go_sem], by simp [*, go_sem], by simp [*, go_sem], by simp [*, go_sem], by simp [*, go_sem], by simp [*, go_sem], by simp [*, go_sem], by simp [*, go_sem], by simp [*, go_sem], fun o => by simp [*, go_sem], fun o => by simp [*, go_sem]⟩ ?_
      clear q1 s1 t1 x1 y1 q2 s2 t2 x2 y2
      rintro w3 ⟨B3, lt3_0, lt3_1, lt3_2, lt3_3, c3_0, c3_1, c3_2, c3_3, c3_4, c3_5, c3_6, c3_7, c3_8, c3_9, c3_10, c3_11, c3_12, c3_13, c3_14, c3_15, c3_16, c3_17, fz3_0, fz3_1⟩
      have z3 : w.heap.size ≤ w3.heap.size := B3.size
      go_region
      go_wp2
      refine bodyPost_ret (by simp [results, Tryz.results31, go_sem, *] <;> rfl) rfl ?_
      refine ⟨⟨_, _, _, _, _, _, _, _, _, _, rfl⟩, ?_⟩
      go_grown
    · rw [trCo_out h0 hi]
      have r := rayOk_zero h0
      have H := Lib.hid h; have R := Lib.hid r; clear h r hc h0
      go_enter Tryz.func31, Tryz.ntmps31
      go_upto_region 5 with (first
        | (go_at_call 56; refine (newRay_ok _ _ _ _ _ _ _ _ _ _ _ ⟨(H.out.1.below (B := w.heap.size) (by first | exact Below.refl _ _ | (go_grown; done) | exact bdrewN (by go_grown) _) (Nat.le_refl _)), (H.out.2.below (B := w.heap.size) (by first | exact Below.refl _ _ | (go_grown; done) | exact bdrewN (by go_grown) _) (Nat.le_refl _))⟩ R.out).mono ?_; rintro e w1 ⟨rfl, hb1⟩; obtain ⟨B1, hz1, q1, s1, t1, x1, y1, z1⟩ := bkeep (w := w) [w.heap.size, w.heap.size + 1, w.heap.size+1+1, w.heap.size+1+1+1] (by first | (simp; done) | (simp; omega)) (by first | (go_grown; done) | exact bdrewN (by go_grown) _) hb1; (try simp at hz1); clear hb1)
        | (go_at_call 25; refine (within_any _ _ _ _).mono ?_; rintro e w' ⟨rfl, rfl⟩))
      refine genS (S := fun w' => Below (w.heap.size) w w' ∧ w.heap.size + 1 + 1 < w'.heap.size ∧ w.heap.size + 1 + 1 + 1 < w'.heap.size ∧ w'.cell? ⟨w.heap.size + 1 + 1, 0, none⟩ = some (.slice none 0 0) ∧ w'.cell? ⟨w.heap.size + 1 + 1, 1, none⟩ = some (.slice none 0 0) ∧ w'.cell? ⟨w.heap.size + 1 + 1, 2, none⟩ = some (.int .i64 0) ∧ w'.cell? ⟨w.heap.size + 1 + 1, 3, none⟩ = some (.int .i64 0) ∧ w'.cell? ⟨w.heap.size + 1 + 1, 4, none⟩ = some (.int .i64 0) ∧ w'.cell? ⟨w.heap.size + 1 + 1, 5, none⟩ = some (.int .i64 0) ∧ w'.cell? ⟨w.heap.size + 1 + 1 + 1, 0, none⟩ = some (.slice none 0 0) ∧ w'.cell? ⟨w.heap.size + 1 + 1 + 1, 1, none⟩ = some (.slice none 0 0) ∧ w'.cell? ⟨w.heap.size + 1 + 1 + 1, 2, none⟩ = some (.slice none 0 0) ∧ (∀ o, w'.frozen? ⟨w.heap.size + 1 + 1, o, none⟩ = false) ∧ (∀ o, w'.frozen? ⟨w.heap.size + 1 + 1 + 1, o, none⟩ = false)) ⟨(by first | with_reducible exact B1 | (go_grown; done) | with_reducible exact bdrewN B1 _ | (go_grown <;> first | with_reducible exact bdrewN B1 _ | with_reducible exact B1)), by first | omega | (simp; done) | (simp; omega), by first | omega | (simp; done) | (simp; omega), by simp [*, go_sem], by simp [*, go_sem], by simp [*, go_sem], by simp [*, go_sem], by simp [*, go_sem], by simp [*, go_sem], by simp [*, go_sem], by simp [*, go_sem], by simp [*, go_sem], fun o => by simp [*, go_sem], fun o => by simp [*, go_sem]⟩ ?_
      clear q1 s1 t1 x1 y1
      rintro w3 ⟨B3, lt3_0, lt3_1, c3_0, c3_1, c3_2, c3_3, c3_4, c3_5, c3_6, c3_7, c3_8, fz3_0, fz3_1⟩
      have z3 : w.heap.size ≤ w3.heap.size := B3.size
      go_wp2
      refine bodyPost_ret (by simp [results, Tryz.results31, go_sem, *] <;> rfl) rfl ?_
      refine ⟨⟨_, _, _, _, _, _, _, _, _, _, rfl⟩, ?_⟩
      go_grown
  · rw [trCo_ray h0]
    have hE2 : (rayE ds ss src co si hy 0 != 0) = true := by simpa using h0
    have H := Lib.hid h; have H0 := Lib.hid h0; clear h h0 hc
    go_enter Tryz.func31, Tryz.ntmps31
    go_upto_region 3 with (go_at_call 56; refine (newRay_bad _ _ _ _ _ _ _ _ _ _ _ ⟨(H.out.1.below (B := w.heap.size) (by first | exact Below.refl _ _ | (go_grown; done) | exact bdrewN (by go_grown) _) (Nat.le_refl _)), (H.out.2.below (B := w.heap.size) (by first | exact Below.refl _ _ | (go_grown; done) | exact bdrewN (by go_grown) _) (Nat.le_refl _))⟩ H0.out).mono ?_; rintro e w1 ⟨rfl, hb1⟩; obtain ⟨B1, hz1, q1, s1, t1, x1, y1, z1⟩ := bkeep (w := w) [w.heap.size, w.heap.size + 1, w.heap.size+1+1, w.heap.size+1+1+1] (by first | (simp; done) | (simp; omega)) (by first | (go_grown; done) | exact bdrewN (by go_grown) _) hb1; (try simp at hz1); clear hb1)
    refine genS (S := fun w' => Below (w.heap.size) w w' ∧ w.heap.size + 1 + 1 < w'.heap.size ∧ w.heap.size + 1 + 1 + 1 < w'.heap.size ∧ w'.cell? ⟨w.heap.size + 1 + 1, 0, none⟩ = some (.slice none 0 0) ∧ w'.cell? ⟨w.heap.size + 1 + 1, 1, none⟩ = some (.slice none 0 0) ∧ w'.cell? ⟨w.heap.size + 1 + 1, 2, none⟩ = some (.int .i64 0) ∧ w'.cell? ⟨w.heap.size + 1 + 1, 3, none⟩ = some (.int .i64 0) ∧ w'.cell? ⟨w.heap.size + 1 + 1, 4, none⟩ = some (.int .i64 0) ∧ w'.cell? ⟨w.heap.size + 1 + 1, 5, none⟩ = some (.int .i64 0) ∧ w'.cell? ⟨w.heap.size + 1 + 1 + 1, 0, none⟩ = some (.slice none 0 0) ∧ w'.cell? ⟨w.heap.size + 1 + 1 + 1, 1, none⟩ = some (.slice none 0 0) ∧ w'.cell? ⟨w.heap.size + 1 + 1 + 1, 2, none⟩ = some (.slice none 0 0) ∧ (∀ o, w'.frozen? ⟨w.heap.size + 1 + 1, o, none⟩ = false) ∧ (∀ o, w'.frozen? ⟨w.heap.size + 1 + 1 + 1, o, none⟩ = false)) ⟨(by first | with_reducible exact B1 | (go_grown; done) | with_reducible exact bdrewN B1 _ | (go_grown <;> first | with_reducible exact bdrewN B1 _ | with_reducible exact B1)), by first | omega | (simp; done) | (simp; omega), by first | omega | (simp; done) | (simp; omega), by simp [*, go_sem], by simp [*, go_sem], by simp [*, go_sem], by simp [*, go_sem], by simp [*, go_sem], by simp [*, go_sem], by simp [*, go_sem], by simp [*, go_sem], by simp [*, go_sem], fun o => by simp [*, go_sem], fun o => by simp [*, go_sem]⟩ ?_
    clear q1 s1 t1 x1 y1
    rintro w3 ⟨B3, lt3_0, lt3_1, c3_0, c3_1, c3_2, c3_3, c3_4, c3_5, c3_6, c3_7, c3_8, fz3_0, fz3_1⟩
    have z3 : w.heap.size ≤ w3.heap.size := B3.size
    go_wp2
    refine bodyPost_ret (by simp [results, Tryz.results31, go_sem, *] <;> rfl) rfl ?_
    refine ⟨⟨_, _, _, _, _, _, _, _, _, _, rfl⟩, ?_⟩
    go_grown
set_option maxHeartbeats 1000000 in
theorem last_zero (a : Value) (c : Value) (A1 A2 : Option Addr) (n1 c1 n2 c2 : Nat) (src co si hy : Int) (A : Option Addr) (cp : Nat) (w : World) :
    Calls Tryz.prog 32 #[trV a (.slice A 0 cp) c, rayV A1 n1 c1 A2 n2 c2 src co si hy] w fun e w' => e = .returned (rsV src (decide (0 < si)) 0 0) ∧ Below w.heap.size w w' := by
  go_enter Tryz.func32, Tryz.ntmps32
  go_wp2_with (go_at_call 57; refine (first_any _ _ _ _ _ _ _ _ _ _ _).mono ?_; rintro e w1 ⟨rfl, hb1⟩; obtain ⟨B1, hz1, q1, s1, t1, x1, y1, z1⟩ := bkeep (w := w) [w.heap.size, w.heap.size + 1, w.heap.size+1+1] (by first | (simp; done) | (simp; omega)) (by first | (go_grown; done) | exact bdrewN (by go_grown) _) hb1; (try simp at hz1); clear hb1)
  refine bodyPost_ret (by simp [results, Tryz.results32, go_sem, *] <;> rfl) rfl ?_
  exact ⟨rfl, (by first | with_reducible exact B1 | (go_grown; done) | with_reducible exact bdrewN B1 _ | (go_grown <;> first | with_reducible exact bdrewN B1 _ | with_reducible exact B1))⟩
set_option maxHeartbeats 1000000 in
theorem last_some (a : Value) (c : Value) (A1 A2 : Option Addr) (n1 c1 n2 c2 : Nat) (src co si hy : Int) (b off m cp : Nat) (x : Rs) (w : World) (hm : m ≤ 100)
    (h0 : w.cell? ⟨b, off + m * 4, none⟩ = some (.int .i64 x.k)) (h1 : w.cell? ⟨b, off + m * 4 + 1, none⟩ = some (.bool x.d)) (h2 : w.cell? ⟨b, off + m * 4 + 2, none⟩ = some (.int .i64 x.lo)) (h3 : w.cell? ⟨b, off + m * 4 + 3, none⟩ = some (.int .i64 x.hi)) (hb : b < w.heap.size) :
    Calls Tryz.prog 32 #[trV a (.slice (some ⟨b, off, none⟩) (m + 1) cp) c, rayV A1 n1 c1 A2 n2 c2 src co si hy] w fun e w' => e = .returned (rsV x.k x.d x.lo x.hi) ∧ Below w.heap.size w w' := by
  have lb1 : b < w.heap.size + 1 := by omega
  have lb2 : b < w.heap.size + 1 + 1 := by omega
  have lb3 : b < w.heap.size + 1 + 1 + 1 := by omega
  go_enter Tryz.func32, Tryz.ntmps32
  go_wp2_with fail
  refine bodyPost_ret (by simp [results, Tryz.results32, go_sem, *] <;> rfl) rfl ?_
  refine ⟨rfl, ?_⟩
  go_grown
end Go.Proofs.YtopggkomkfjbfaaGreat
