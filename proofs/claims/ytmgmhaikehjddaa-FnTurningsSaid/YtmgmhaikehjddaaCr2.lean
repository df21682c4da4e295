/- The range of a crossing with its code, by the program and by the reference. -/
import Derived.Test.YtmgmhaikehjddaaCr
namespace Go.Proofs.Ytmgmhaikehjddaa
set_option linter.unusedSimpArgs false
set_option linter.unusedVariables false
open Go.RowKit

@[irreducible] def crgLo (ds ss : List Int) (src co si hy l : Int) : Int := if vaE 1 ds ss src co si hy l true = 0 then limLo (crLo ds ss src co hy l) (crHi ds ss src co hy l) else 0
@[irreducible] def crgHi (ds ss : List Int) (src co si hy l : Int) : Int := if vaE 1 ds ss src co si hy l true = 0 then limHi (crLo ds ss src co hy l) (crHi ds ss src co hy l) else 0
@[irreducible] def crgC (ds ss : List Int) (src co si hy l : Int) : Int := if vaE 1 ds ss src co si hy l true = 0 then limC (crLo ds ss src co hy l) (crHi ds ss src co hy l) 3 else vaE 1 ds ss src co si hy l true
theorem crg_ok {ds ss : List Int} {src co si hy l : Int} (h : vaE 1 ds ss src co si hy l true = 0) : crgLo ds ss src co si hy l = limLo (crLo ds ss src co hy l) (crHi ds ss src co hy l) ∧
    crgHi ds ss src co si hy l = limHi (crLo ds ss src co hy l) (crHi ds ss src co hy l) ∧ crgC ds ss src co si hy l = limC (crLo ds ss src co hy l) (crHi ds ss src co hy l) 3 := by
  unfold crgLo crgHi crgC; rw [if_pos h, if_pos h, if_pos h]; exact ⟨rfl, rfl, rfl⟩
theorem crg_bad {ds ss : List Int} {src co si hy l : Int} (h : vaE 1 ds ss src co si hy l true ≠ 0) : crgLo ds ss src co si hy l = 0 ∧ crgHi ds ss src co si hy l = 0 ∧ crgC ds ss src co si hy l = vaE 1 ds ss src co si hy l true := by
  unfold crgLo crgHi crgC; rw [if_neg h, if_neg h, if_neg h]; exact ⟨rfl, rfl, rfl⟩

set_option maxHeartbeats 2000000 in
theorem implCrossRange_any (A1 A2 : Option Addr) (c1 c2 : Nat) (ds ss : List Int) (src co si hy l : Int) (w : World) (h : ProfAt w A1 c1 A2 c2 ds ss) :
    Calls Try.prog 31 #[profV A1 ds.length c1 A2 ss.length c2, .int .i64 src, dirV co si hy, .int .i64 l] w fun e w' => e = .returned (.tuple #[ivV (crgLo ds ss src co si hy l) (crgHi ds ss src co si hy l), .int .i64 (crgC ds ss src co si hy l)]) ∧ Below w.heap.size w w' := by
  by_cases ho : vaE 1 ds ss src co si hy l true = 0
  · obtain ⟨h0, hv⟩ := va_ok ho
    obtain ⟨hcn, hcf⟩ := vd_one hv
    obtain ⟨r, l0, l1, -, -⟩ := arc_ok h0
    obtain ⟨n0, n1⟩ := near_bd true l0 l1
    obtain ⟨f0, f1⟩ := far_bd true l0 l1
    obtain ⟨e1, e2, e3⟩ := crg_ok ho
    have H := Lib.hid h; have R := Lib.hid r; have HO := Lib.hid ho; have E1 := Lib.hid e1; have E2 := Lib.hid e2; have E3 := Lib.hid e3; have HN := Lib.hid hcn; have HF := Lib.hid hcf; clear h r ho h0 hv e1 e2 e3 hcn hcf
    go_enter Try.func31, Try.ntmps31
    go_wp2_with (first
      | (go_at_call 110; refine (verdictArc_cr _ _ _ _ _ _ _ _ _ _ _ _ ⟨(H.out.1.below (B := w.heap.size) (by first | exact Below.refl _ _ | (go_grown; done) | exact bdrewN (by go_grown) _) (Nat.le_refl _)), (H.out.2.below (B := w.heap.size) (by first | exact Below.refl _ _ | (go_grown; done) | exact bdrewN (by go_grown) _) (Nat.le_refl _))⟩ HO.out).mono ?_; rintro e w1 ⟨rfl, hb1⟩; obtain ⟨B1, hz1, q1, s1, t1, x1, y1, z1⟩ := bkeep (w := w) [w.heap.size, w.heap.size + 1, w.heap.size + 2] (by first | (simp; done) | (simp; omega)) (by first | (go_grown; done) | exact bdrewN (by go_grown) _) hb1; (try simp at hz1); clear hb1)
      | (go_at_call 111; refine (crossed_true _ _ _ _ _ _ _ _ _ _ _ _ ⟨(H.out.1.below (B := w.heap.size) (by first | exact Below.refl _ _ | (go_grown; done) | exact bdrewN (by go_grown) _) (Nat.le_refl _)), (H.out.2.below (B := w.heap.size) (by first | exact Below.refl _ _ | (go_grown; done) | exact bdrewN (by go_grown) _) (Nat.le_refl _))⟩ R.out l0 l1 HN.out HF.out).mono ?_; rintro e w2 ⟨rfl, hb2⟩; obtain ⟨B2, hz2, q2, s2, t2, x2, y2, z2⟩ := bkeep (w := w) [w.heap.size, w.heap.size + 1, w.heap.size + 2] (by first | (simp; done) | (simp; omega)) (by first | (go_grown; done) | exact bdrewN (by go_grown) _) hb2; (try simp at hz2); clear hb2)
      | (go_at_call 112; refine (checked_any _ _ _ _).mono ?_; rintro e w3 ⟨rfl, hb3⟩; obtain ⟨B3, hz3, q3, s3, t3, x3, y3, z3⟩ := bkeep (w := w) [w.heap.size, w.heap.size + 1, w.heap.size + 2] (by first | (simp; done) | (simp; omega)) (by first | (go_grown; done) | exact bdrewN (by go_grown) _) hb3; (try simp at hz3); clear hb3))
    have d0 : w3.cell? ⟨w.heap.size + 1 + 1, 0, none⟩ = some (.int .i64 0) := by simp [*, go_sem]
    have d1 : w3.cell? ⟨w.heap.size + 1 + 1, 1, none⟩ = some (.int .i64 0) := by simp [*, go_sem]
    clear q1 q2 q3
    refine bodyPost_ret (by simp [results, Try.results31, go_sem, *] <;> rfl) rfl ?_
    exact ⟨by rw [E1.out, E2.out, E3.out], (by first | with_reducible exact B3 | (go_grown; done) | with_reducible exact bdrewN B3 _ | (go_grown <;> first | with_reducible exact bdrewN B3 _ | with_reducible exact B3))⟩
  · obtain ⟨e1, e2, e3⟩ := crg_bad ho
    have hE : (vaE 1 ds ss src co si hy l true != 0) = true := by simpa using ho
    have H := Lib.hid h; have HO := Lib.hid ho; have E1 := Lib.hid e1; have E2 := Lib.hid e2; have E3 := Lib.hid e3; clear h ho e1 e2 e3
    go_enter Try.func31, Try.ntmps31
    go_wp2_with (go_at_call 110; refine (verdictArc_bad 1 _ _ _ _ _ _ _ _ _ _ _ _ _ ⟨(H.out.1.below (B := w.heap.size) (by first | exact Below.refl _ _ | (go_grown; done) | exact bdrewN (by go_grown) _) (Nat.le_refl _)), (H.out.2.below (B := w.heap.size) (by first | exact Below.refl _ _ | (go_grown; done) | exact bdrewN (by go_grown) _) (Nat.le_refl _))⟩ HO.out).mono ?_; rintro e w1 ⟨rfl, hb1⟩; obtain ⟨B1, hz1, q1, s1, t1, x1, y1, z1⟩ := bkeep (w := w) [w.heap.size, w.heap.size + 1, w.heap.size + 2] (by first | (simp; done) | (simp; omega)) (by first | (go_grown; done) | exact bdrewN (by go_grown) _) hb1; (try simp at hz1); clear hb1)
    have d0 : w1.cell? ⟨w.heap.size + 1 + 1, 0, none⟩ = some (.int .i64 0) := by simp [*, go_sem]
    have d1 : w1.cell? ⟨w.heap.size + 1 + 1, 1, none⟩ = some (.int .i64 0) := by simp [*, go_sem]
    clear q1
    refine bodyPost_ret (by simp [results, Try.results31, go_sem, *] <;> rfl) rfl ?_
    exact ⟨by rw [E1.out, E2.out, E3.out], (by first | with_reducible exact B1 | (go_grown; done) | with_reducible exact bdrewN B1 _ | (go_grown <;> first | with_reducible exact bdrewN B1 _ | with_reducible exact B1))⟩
set_option maxHeartbeats 2000000 in
theorem specCrossRange_any (A1 A2 : Option Addr) (c1 c2 : Nat) (ds ss : List Int) (src co si hy l : Int) (w : World) (h : ProfAt w A1 c1 A2 c2 ds ss) :
    Calls Try.prog 32 #[profV A1 ds.length c1 A2 ss.length c2, .int .i64 src, dirV co si hy, .int .i64 l] w fun e w' => e = .returned (.tuple #[ivV (crgLo ds ss src co si hy l) (crgHi ds ss src co si hy l), .int .i64 (crgC ds ss src co si hy l)]) ∧ Below w.heap.size w w' := by
  by_cases h0 : arcE ds ss src co si hy l = 0
  · obtain ⟨r, l0, l1, -, -⟩ := arc_ok h0
    have hE : (arcE ds ss src co si hy l == 0) = true := by rw [h0]; rfl
    have hE2 : (arcE ds ss src co si hy l != 0) = false := by rw [h0]; rfl
    by_cases ho : vaE 1 ds ss src co si hy l true = 0
    · obtain ⟨-, hv⟩ := va_ok ho
      obtain ⟨hcn, hcf⟩ := vd_one hv
      have hvb : (vdI ss src co hy (nearK l true) (farK l true) != 1) = false := by rw [hv]; rfl
      obtain ⟨e1, e2, e3⟩ := crg_ok ho
      have H := Lib.hid h; have R := Lib.hid r; have E1 := Lib.hid e1; have E2 := Lib.hid e2; have E3 := Lib.hid e3; have HN := Lib.hid hcn; have HF := Lib.hid hcf; clear h r ho h0 hv e1 e2 e3 hcn hcf
      go_enter Try.func32, Try.ntmps32
      go_wp2_with (first
        | (go_at_call 113; refine (l06Code_any _ _ _ _ _ _ _ _ _ _ _ _ ⟨(H.out.1.below (B := w.heap.size) (by first | exact Below.refl _ _ | (go_grown; done) | exact bdrewN (by go_grown) _) (Nat.le_refl _)), (H.out.2.below (B := w.heap.size) (by first | exact Below.refl _ _ | (go_grown; done) | exact bdrewN (by go_grown) _) (Nat.le_refl _))⟩).mono ?_; rintro e w1 ⟨rfl, hb1⟩; obtain ⟨B1, hz1, q1, s1, t1, x1, y1, z1⟩ := bkeep (w := w) [w.heap.size, w.heap.size + 1, w.heap.size + 2] (by first | (simp; done) | (simp; omega)) (by first | (go_grown; done) | exact bdrewN (by go_grown) _) hb1; (try simp at hz1); clear hb1)
        | (go_at_call 114; refine (l06Verdict_any _ _ _ _ _ _ _ _ _ _ _ _ _ ⟨(H.out.1.below (B := w.heap.size) (by first | exact Below.refl _ _ | (go_grown; done) | exact bdrewN (by go_grown) _) (Nat.le_refl _)), (H.out.2.below (B := w.heap.size) (by first | exact Below.refl _ _ | (go_grown; done) | exact bdrewN (by go_grown) _) (Nat.le_refl _))⟩ R.out l0 l1).mono ?_; rintro e w2 ⟨rfl, hb2⟩; obtain ⟨B2, hz2, q2, s2, t2, x2, y2, z2⟩ := bkeep (w := w) [w.heap.size, w.heap.size + 1, w.heap.size + 2] (by first | (simp; done) | (simp; omega)) (by first | (go_grown; done) | exact bdrewN (by go_grown) _) hb2; (try simp at hz2); clear hb2)
        | (go_at_call 115; refine (l06Cross_any _ _ _ _ _ _ _ _ _ _ _ _ ⟨(H.out.1.below (B := w.heap.size) (by first | exact Below.refl _ _ | (go_grown; done) | exact bdrewN (by go_grown) _) (Nat.le_refl _)), (H.out.2.below (B := w.heap.size) (by first | exact Below.refl _ _ | (go_grown; done) | exact bdrewN (by go_grown) _) (Nat.le_refl _))⟩ R.out l0 l1 (Or.inl HN.out)).mono ?_; rintro e w3 ⟨rfl, hb3⟩; obtain ⟨B3, hz3, q3, s3, t3, x3, y3, z3⟩ := bkeep (w := w) [w.heap.size, w.heap.size + 1, w.heap.size + 2] (by first | (simp; done) | (simp; omega)) (by first | (go_grown; done) | exact bdrewN (by go_grown) _) hb3; (try simp at hz3); clear hb3))
      have d0 : w3.cell? ⟨w.heap.size + 1 + 1, 0, none⟩ = some (.int .i64 0) := by simp [*, go_sem]
      have d1 : w3.cell? ⟨w.heap.size + 1 + 1, 1, none⟩ = some (.int .i64 0) := by simp [*, go_sem]
      clear q1 q2 q3
      refine bodyPost_ret (by simp [results, Try.results32, go_sem, *] <;> rfl) rfl ?_
      exact ⟨by rw [E1.out, E2.out, E3.out], (by first | with_reducible exact B3 | (go_grown; done) | with_reducible exact bdrewN B3 _ | (go_grown <;> first | with_reducible exact bdrewN B3 _ | with_reducible exact B3))⟩
    · obtain ⟨hv, hc⟩ := va_other h0 ho
      have hvb : (vdI ss src co hy (nearK l true) (farK l true) != 1) = true := by simpa using hv
      obtain ⟨e1, e2, e3⟩ := crg_bad ho
      rw [hc] at e3
      have H := Lib.hid h; have R := Lib.hid r; have E1 := Lib.hid e1; have E2 := Lib.hid e2; have E3 := Lib.hid e3; clear h r ho h0 hv e1 e2 e3 hc
      go_enter Try.func32, Try.ntmps32
      go_wp2_with (first
        | (go_at_call 113; refine (l06Code_any _ _ _ _ _ _ _ _ _ _ _ _ ⟨(H.out.1.below (B := w.heap.size) (by first | exact Below.refl _ _ | (go_grown; done) | exact bdrewN (by go_grown) _) (Nat.le_refl _)), (H.out.2.below (B := w.heap.size) (by first | exact Below.refl _ _ | (go_grown; done) | exact bdrewN (by go_grown) _) (Nat.le_refl _))⟩).mono ?_; rintro e w1 ⟨rfl, hb1⟩; obtain ⟨B1, hz1, q1, s1, t1, x1, y1, z1⟩ := bkeep (w := w) [w.heap.size, w.heap.size + 1, w.heap.size + 2] (by first | (simp; done) | (simp; omega)) (by first | (go_grown; done) | exact bdrewN (by go_grown) _) hb1; (try simp at hz1); clear hb1)
        | (go_at_call 114; refine (l06Verdict_any _ _ _ _ _ _ _ _ _ _ _ _ _ ⟨(H.out.1.below (B := w.heap.size) (by first | exact Below.refl _ _ | (go_grown; done) | exact bdrewN (by go_grown) _) (Nat.le_refl _)), (H.out.2.below (B := w.heap.size) (by first | exact Below.refl _ _ | (go_grown; done) | exact bdrewN (by go_grown) _) (Nat.le_refl _))⟩ R.out l0 l1).mono ?_; rintro e w2 ⟨rfl, hb2⟩; obtain ⟨B2, hz2, q2, s2, t2, x2, y2, z2⟩ := bkeep (w := w) [w.heap.size, w.heap.size + 1, w.heap.size + 2] (by first | (simp; done) | (simp; omega)) (by first | (go_grown; done) | exact bdrewN (by go_grown) _) hb2; (try simp at hz2); clear hb2))
      have d0 : w2.cell? ⟨w.heap.size + 1 + 1, 0, none⟩ = some (.int .i64 0) := by simp [*, go_sem]
      have d1 : w2.cell? ⟨w.heap.size + 1 + 1, 1, none⟩ = some (.int .i64 0) := by simp [*, go_sem]
      clear q1 q2
      refine bodyPost_ret (by simp [results, Try.results32, go_sem, *] <;> rfl) rfl ?_
      exact ⟨by rw [E1.out, E2.out, E3.out], (by first | with_reducible exact B2 | (go_grown; done) | with_reducible exact bdrewN B2 _ | (go_grown <;> first | with_reducible exact bdrewN B2 _ | with_reducible exact B2))⟩
  · have hE : (arcE ds ss src co si hy l == 0) = false := by simpa using h0
    have hE2 : (arcE ds ss src co si hy l != 0) = true := by simpa using h0
    have hc := va_bad (v := 1) (ab := true) h0
    obtain ⟨e1, e2, e3⟩ := crg_bad (show vaE 1 ds ss src co si hy l true ≠ 0 by rw [hc]; exact h0)
    rw [hc] at e3
    have H := Lib.hid h; have E1 := Lib.hid e1; have E2 := Lib.hid e2; have E3 := Lib.hid e3; clear h h0 e1 e2 e3 hc
    go_enter Try.func32, Try.ntmps32
    go_wp2_with (go_at_call 113; refine (l06Code_any _ _ _ _ _ _ _ _ _ _ _ _ ⟨(H.out.1.below (B := w.heap.size) (by first | exact Below.refl _ _ | (go_grown; done) | exact bdrewN (by go_grown) _) (Nat.le_refl _)), (H.out.2.below (B := w.heap.size) (by first | exact Below.refl _ _ | (go_grown; done) | exact bdrewN (by go_grown) _) (Nat.le_refl _))⟩).mono ?_; rintro e w1 ⟨rfl, hb1⟩; obtain ⟨B1, hz1, q1, s1, t1, x1, y1, z1⟩ := bkeep (w := w) [w.heap.size, w.heap.size + 1, w.heap.size + 2] (by first | (simp; done) | (simp; omega)) (by first | (go_grown; done) | exact bdrewN (by go_grown) _) hb1; (try simp at hz1); clear hb1)
    have d0 : w1.cell? ⟨w.heap.size + 1 + 1, 0, none⟩ = some (.int .i64 0) := by simp [*, go_sem]
    have d1 : w1.cell? ⟨w.heap.size + 1 + 1, 1, none⟩ = some (.int .i64 0) := by simp [*, go_sem]
    clear q1
    refine bodyPost_ret (by simp [results, Try.results32, go_sem, *] <;> rfl) rfl ?_
    exact ⟨by rw [E1.out, E2.out, E3.out], (by first | with_reducible exact B1 | (go_grown; done) | with_reducible exact bdrewN B1 _ | (go_grown <;> first | with_reducible exact bdrewN B1 _ | with_reducible exact B1))⟩
end Go.Proofs.Ytmgmhaikehjddaa
