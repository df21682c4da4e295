/- The range of a turn with its code, by the program and by the reference. -/
import Derived.Test.YtmgmhaikehjddaaTn
namespace Go.Proofs.Ytmgmhaikehjddaa
set_option linter.unusedSimpArgs false
set_option linter.unusedVariables false
open Go.RowKit

@[irreducible] def trLo (ds ss : List Int) (src co si hy l : Int) (ab : Bool) : Int := if vaE 2 ds ss src co si hy l ab = 0 then limLo (tnLo ds ss src co hy (nearK l ab) (farK l ab)) (tnHi ds ss src co hy (nearK l ab) (farK l ab)) else 0
@[irreducible] def trHi (ds ss : List Int) (src co si hy l : Int) (ab : Bool) : Int := if vaE 2 ds ss src co si hy l ab = 0 then limHi (tnLo ds ss src co hy (nearK l ab) (farK l ab)) (tnHi ds ss src co hy (nearK l ab) (farK l ab)) else 0
@[irreducible] def trC (ds ss : List Int) (src co si hy l : Int) (ab : Bool) : Int := if vaE 2 ds ss src co si hy l ab = 0 then limC (tnLo ds ss src co hy (nearK l ab) (farK l ab)) (tnHi ds ss src co hy (nearK l ab) (farK l ab)) 3 else vaE 2 ds ss src co si hy l ab
theorem tr_ok {ds ss : List Int} {src co si hy l : Int} {ab : Bool} (h : vaE 2 ds ss src co si hy l ab = 0) : trLo ds ss src co si hy l ab = limLo (tnLo ds ss src co hy (nearK l ab) (farK l ab)) (tnHi ds ss src co hy (nearK l ab) (farK l ab)) ∧
    trHi ds ss src co si hy l ab = limHi (tnLo ds ss src co hy (nearK l ab) (farK l ab)) (tnHi ds ss src co hy (nearK l ab) (farK l ab)) ∧ trC ds ss src co si hy l ab = limC (tnLo ds ss src co hy (nearK l ab) (farK l ab)) (tnHi ds ss src co hy (nearK l ab) (farK l ab)) 3 := by
  unfold trLo trHi trC; rw [if_pos h, if_pos h, if_pos h]; exact ⟨rfl, rfl, rfl⟩
theorem tr_bad {ds ss : List Int} {src co si hy l : Int} {ab : Bool} (h : vaE 2 ds ss src co si hy l ab ≠ 0) : trLo ds ss src co si hy l ab = 0 ∧ trHi ds ss src co si hy l ab = 0 ∧ trC ds ss src co si hy l ab = vaE 2 ds ss src co si hy l ab := by
  unfold trLo trHi trC; rw [if_neg h, if_neg h, if_neg h]; exact ⟨rfl, rfl, rfl⟩

set_option maxHeartbeats 2000000 in
theorem implTurnRange_any (A1 A2 : Option Addr) (c1 c2 : Nat) (ds ss : List Int) (src co si hy l : Int) (ab : Bool) (w : World) (h : ProfAt w A1 c1 A2 c2 ds ss) :
    Calls Try.prog 38 #[profV A1 ds.length c1 A2 ss.length c2, .int .i64 src, dirV co si hy, .int .i64 l, .bool ab] w fun e w' => e = .returned (.tuple #[ivV (trLo ds ss src co si hy l ab) (trHi ds ss src co si hy l ab), .int .i64 (trC ds ss src co si hy l ab)]) ∧ Below w.heap.size w w' := by
  by_cases ho : vaE 2 ds ss src co si hy l ab = 0
  · obtain ⟨h0, hv⟩ := va_ok ho
    obtain ⟨hcn, hcf⟩ := vd_two hv
    obtain ⟨r, l0, l1, -, -⟩ := arc_ok h0
    obtain ⟨n0, n1⟩ := near_bd ab l0 l1
    obtain ⟨f0, f1⟩ := far_bd ab l0 l1
    obtain ⟨e1, e2, e3⟩ := tr_ok ho
    have H := Lib.hid h; have R := Lib.hid r; have HO := Lib.hid ho; have E1 := Lib.hid e1; have E2 := Lib.hid e2; have E3 := Lib.hid e3; have HN := Lib.hid hcn; have HF := Lib.hid hcf; clear h r ho h0 hv e1 e2 e3 hcn hcf
    go_enter Try.func38, Try.ntmps38
    go_wp2_with (first
      | (go_at_call 110; refine (verdictArc_ok 2 _ _ _ _ _ _ _ _ _ _ _ _ _ ⟨(H.out.1.below (B := w.heap.size) (by first | exact Below.refl _ _ | (go_grown; done) | exact bdrewN (by go_grown) _) (Nat.le_refl _)), (H.out.2.below (B := w.heap.size) (by first | exact Below.refl _ _ | (go_grown; done) | exact bdrewN (by go_grown) _) (Nat.le_refl _))⟩ HO.out).mono ?_; rintro e w1 ⟨rfl, hb1⟩; obtain ⟨B1, hz1, q1, s1, t1, x1, y1, z1⟩ := bkeep (w := w) [w.heap.size, w.heap.size + 1, w.heap.size + 2] (by first | (simp; done) | (simp; omega)) (by first | (go_grown; done) | exact bdrewN (by go_grown) _) hb1; (try simp at hz1); clear hb1)
      | (go_at_call 121; refine (turned_any _ _ _ _ _ _ _ _ _ _ _ _ _ ⟨(H.out.1.below (B := w.heap.size) (by first | exact Below.refl _ _ | (go_grown; done) | exact bdrewN (by go_grown) _) (Nat.le_refl _)), (H.out.2.below (B := w.heap.size) (by first | exact Below.refl _ _ | (go_grown; done) | exact bdrewN (by go_grown) _) (Nat.le_refl _))⟩ R.out n0 n1 f0 f1 HN.out HF.out).mono ?_; rintro e w2 ⟨rfl, hb2⟩; obtain ⟨B2, hz2, q2, s2, t2, x2, y2, z2⟩ := bkeep (w := w) [w.heap.size, w.heap.size + 1, w.heap.size + 2] (by first | (simp; done) | (simp; omega)) (by first | (go_grown; done) | exact bdrewN (by go_grown) _) hb2; (try simp at hz2); clear hb2)
      | (go_at_call 112; refine (checked_any _ _ _ _).mono ?_; rintro e w3 ⟨rfl, hb3⟩; obtain ⟨B3, hz3, q3, s3, t3, x3, y3, z3⟩ := bkeep (w := w) [w.heap.size, w.heap.size + 1, w.heap.size + 2] (by first | (simp; done) | (simp; omega)) (by first | (go_grown; done) | exact bdrewN (by go_grown) _) hb3; (try simp at hz3); clear hb3))
    have d0 : w3.cell? ⟨w.heap.size + 1 + 1, 0, none⟩ = some (.int .i64 0) := by simp [*, go_sem]
    have d1 : w3.cell? ⟨w.heap.size + 1 + 1, 1, none⟩ = some (.int .i64 0) := by simp [*, go_sem]
    clear q1 q2 q3
    refine bodyPost_ret (by simp [results, Try.results38, go_sem, *] <;> rfl) rfl ?_
    exact ⟨by rw [E1.out, E2.out, E3.out], (by first | with_reducible exact B3 | (go_grown; done) | with_reducible exact bdrewN B3 _ | (go_grown <;> first | with_reducible exact bdrewN B3 _ | with_reducible exact B3))⟩
  · obtain ⟨e1, e2, e3⟩ := tr_bad ho
    have hE : (vaE 2 ds ss src co si hy l ab != 0) = true := by simpa using ho
    have H := Lib.hid h; have HO := Lib.hid ho; have E1 := Lib.hid e1; have E2 := Lib.hid e2; have E3 := Lib.hid e3; clear h ho e1 e2 e3
    go_enter Try.func38, Try.ntmps38
    go_wp2_with (go_at_call 110; refine (verdictArc_bad 2 _ _ _ _ _ _ _ _ _ _ _ _ _ ⟨(H.out.1.below (B := w.heap.size) (by first | exact Below.refl _ _ | (go_grown; done) | exact bdrewN (by go_grown) _) (Nat.le_refl _)), (H.out.2.below (B := w.heap.size) (by first | exact Below.refl _ _ | (go_grown; done) | exact bdrewN (by go_grown) _) (Nat.le_refl _))⟩ HO.out).mono ?_; rintro e w1 ⟨rfl, hb1⟩; obtain ⟨B1, hz1, q1, s1, t1, x1, y1, z1⟩ := bkeep (w := w) [w.heap.size, w.heap.size + 1, w.heap.size + 2] (by first | (simp; done) | (simp; omega)) (by first | (go_grown; done) | exact bdrewN (by go_grown) _) hb1; (try simp at hz1); clear hb1)
    have d0 : w1.cell? ⟨w.heap.size + 1 + 1, 0, none⟩ = some (.int .i64 0) := by simp [*, go_sem]
    have d1 : w1.cell? ⟨w.heap.size + 1 + 1, 1, none⟩ = some (.int .i64 0) := by simp [*, go_sem]
    clear q1
    refine bodyPost_ret (by simp [results, Try.results38, go_sem, *] <;> rfl) rfl ?_
    exact ⟨by rw [E1.out, E2.out, E3.out], (by first | with_reducible exact B1 | (go_grown; done) | with_reducible exact bdrewN B1 _ | (go_grown <;> first | with_reducible exact bdrewN B1 _ | with_reducible exact B1))⟩
set_option maxHeartbeats 2000000 in
theorem specTurnRange_any (A1 A2 : Option Addr) (c1 c2 : Nat) (ds ss : List Int) (src co si hy l : Int) (ab : Bool) (w : World) (h : ProfAt w A1 c1 A2 c2 ds ss) :
    Calls Try.prog 39 #[profV A1 ds.length c1 A2 ss.length c2, .int .i64 src, dirV co si hy, .int .i64 l, .bool ab] w fun e w' => e = .returned (.tuple #[ivV (trLo ds ss src co si hy l ab) (trHi ds ss src co si hy l ab), .int .i64 (trC ds ss src co si hy l ab)]) ∧ Below w.heap.size w w' := by
  by_cases h0 : arcE ds ss src co si hy l = 0
  · obtain ⟨r, l0, l1, -, -⟩ := arc_ok h0
    have hE : (arcE ds ss src co si hy l == 0) = true := by rw [h0]; rfl
    have hE2 : (arcE ds ss src co si hy l != 0) = false := by rw [h0]; rfl
    by_cases ho : vaE 2 ds ss src co si hy l ab = 0
    · obtain ⟨-, hv⟩ := va_ok ho
      obtain ⟨hcn, hcf⟩ := vd_two hv
      have hvb : (vdI ss src co hy (nearK l ab) (farK l ab) != 2) = false := by rw [hv]; rfl
      obtain ⟨e1, e2, e3⟩ := tr_ok ho
      have H := Lib.hid h; have R := Lib.hid r; have E1 := Lib.hid e1; have E2 := Lib.hid e2; have E3 := Lib.hid e3; have HN := Lib.hid hcn; have HF := Lib.hid hcf; clear h r ho h0 hv e1 e2 e3 hcn hcf
      go_enter Try.func39, Try.ntmps39
      go_wp2_with (first
        | (go_at_call 113; refine (l06Code_any _ _ _ _ _ _ _ _ _ _ _ _ ⟨(H.out.1.below (B := w.heap.size) (by first | exact Below.refl _ _ | (go_grown; done) | exact bdrewN (by go_grown) _) (Nat.le_refl _)), (H.out.2.below (B := w.heap.size) (by first | exact Below.refl _ _ | (go_grown; done) | exact bdrewN (by go_grown) _) (Nat.le_refl _))⟩).mono ?_; rintro e w1 ⟨rfl, hb1⟩; obtain ⟨B1, hz1, q1, s1, t1, x1, y1, z1⟩ := bkeep (w := w) [w.heap.size, w.heap.size + 1, w.heap.size + 2] (by first | (simp; done) | (simp; omega)) (by first | (go_grown; done) | exact bdrewN (by go_grown) _) hb1; (try simp at hz1); clear hb1)
        | (go_at_call 114; refine (l06Verdict_any _ _ _ _ _ _ _ _ _ _ _ _ _ ⟨(H.out.1.below (B := w.heap.size) (by first | exact Below.refl _ _ | (go_grown; done) | exact bdrewN (by go_grown) _) (Nat.le_refl _)), (H.out.2.below (B := w.heap.size) (by first | exact Below.refl _ _ | (go_grown; done) | exact bdrewN (by go_grown) _) (Nat.le_refl _))⟩ R.out l0 l1).mono ?_; rintro e w2 ⟨rfl, hb2⟩; obtain ⟨B2, hz2, q2, s2, t2, x2, y2, z2⟩ := bkeep (w := w) [w.heap.size, w.heap.size + 1, w.heap.size + 2] (by first | (simp; done) | (simp; omega)) (by first | (go_grown; done) | exact bdrewN (by go_grown) _) hb2; (try simp at hz2); clear hb2)
        | (go_at_call 122; refine (l06Turn_any _ _ _ _ _ _ _ _ _ _ _ _ _ ⟨(H.out.1.below (B := w.heap.size) (by first | exact Below.refl _ _ | (go_grown; done) | exact bdrewN (by go_grown) _) (Nat.le_refl _)), (H.out.2.below (B := w.heap.size) (by first | exact Below.refl _ _ | (go_grown; done) | exact bdrewN (by go_grown) _) (Nat.le_refl _))⟩ R.out l0 l1 HN.out HF.out).mono ?_; rintro e w3 ⟨rfl, hb3⟩; obtain ⟨B3, hz3, q3, s3, t3, x3, y3, z3⟩ := bkeep (w := w) [w.heap.size, w.heap.size + 1, w.heap.size + 2] (by first | (simp; done) | (simp; omega)) (by first | (go_grown; done) | exact bdrewN (by go_grown) _) hb3; (try simp at hz3); clear hb3))
      have d0 : w3.cell? ⟨w.heap.size + 1 + 1, 0, none⟩ = some (.int .i64 0) := by simp [*, go_sem]
      have d1 : w3.cell? ⟨w.heap.size + 1 + 1, 1, none⟩ = some (.int .i64 0) := by simp [*, go_sem]
      clear q1 q2 q3
      refine bodyPost_ret (by simp [results, Try.results39, go_sem, *] <;> rfl) rfl ?_
      exact ⟨by rw [E1.out, E2.out, E3.out], (by first | with_reducible exact B3 | (go_grown; done) | with_reducible exact bdrewN B3 _ | (go_grown <;> first | with_reducible exact bdrewN B3 _ | with_reducible exact B3))⟩
    · obtain ⟨hv, hc⟩ := va_other h0 ho
      have hvb : (vdI ss src co hy (nearK l ab) (farK l ab) != 2) = true := by simpa using hv
      obtain ⟨e1, e2, e3⟩ := tr_bad ho
      rw [hc] at e3
      have H := Lib.hid h; have R := Lib.hid r; have E1 := Lib.hid e1; have E2 := Lib.hid e2; have E3 := Lib.hid e3; clear h r ho h0 hv e1 e2 e3 hc
      go_enter Try.func39, Try.ntmps39
      go_wp2_with (first
        | (go_at_call 113; refine (l06Code_any _ _ _ _ _ _ _ _ _ _ _ _ ⟨(H.out.1.below (B := w.heap.size) (by first | exact Below.refl _ _ | (go_grown; done) | exact bdrewN (by go_grown) _) (Nat.le_refl _)), (H.out.2.below (B := w.heap.size) (by first | exact Below.refl _ _ | (go_grown; done) | exact bdrewN (by go_grown) _) (Nat.le_refl _))⟩).mono ?_; rintro e w1 ⟨rfl, hb1⟩; obtain ⟨B1, hz1, q1, s1, t1, x1, y1, z1⟩ := bkeep (w := w) [w.heap.size, w.heap.size + 1, w.heap.size + 2] (by first | (simp; done) | (simp; omega)) (by first | (go_grown; done) | exact bdrewN (by go_grown) _) hb1; (try simp at hz1); clear hb1)
        | (go_at_call 114; refine (l06Verdict_any _ _ _ _ _ _ _ _ _ _ _ _ _ ⟨(H.out.1.below (B := w.heap.size) (by first | exact Below.refl _ _ | (go_grown; done) | exact bdrewN (by go_grown) _) (Nat.le_refl _)), (H.out.2.below (B := w.heap.size) (by first | exact Below.refl _ _ | (go_grown; done) | exact bdrewN (by go_grown) _) (Nat.le_refl _))⟩ R.out l0 l1).mono ?_; rintro e w2 ⟨rfl, hb2⟩; obtain ⟨B2, hz2, q2, s2, t2, x2, y2, z2⟩ := bkeep (w := w) [w.heap.size, w.heap.size + 1, w.heap.size + 2] (by first | (simp; done) | (simp; omega)) (by first | (go_grown; done) | exact bdrewN (by go_grown) _) hb2; (try simp at hz2); clear hb2))
      have d0 : w2.cell? ⟨w.heap.size + 1 + 1, 0, none⟩ = some (.int .i64 0) := by simp [*, go_sem]
      have d1 : w2.cell? ⟨w.heap.size + 1 + 1, 1, none⟩ = some (.int .i64 0) := by simp [*, go_sem]
      clear q1 q2
      refine bodyPost_ret (by simp [results, Try.results39, go_sem, *] <;> rfl) rfl ?_
      exact ⟨by rw [E1.out, E2.out, E3.out], (by first | with_reducible exact B2 | (go_grown; done) | with_reducible exact bdrewN B2 _ | (go_grown <;> first | with_reducible exact bdrewN B2 _ | with_reducible exact B2))⟩
  · have hE : (arcE ds ss src co si hy l == 0) = false := by simpa using h0
    have hE2 : (arcE ds ss src co si hy l != 0) = true := by simpa using h0
    have hc := va_bad (v := 2) (ab := ab) h0
    obtain ⟨e1, e2, e3⟩ := tr_bad (ab := ab) (show vaE 2 ds ss src co si hy l ab ≠ 0 by rw [hc]; exact h0)
    rw [hc] at e3
    have H := Lib.hid h; have E1 := Lib.hid e1; have E2 := Lib.hid e2; have E3 := Lib.hid e3; clear h h0 e1 e2 e3 hc
    go_enter Try.func39, Try.ntmps39
    go_wp2_with (go_at_call 113; refine (l06Code_any _ _ _ _ _ _ _ _ _ _ _ _ ⟨(H.out.1.below (B := w.heap.size) (by first | exact Below.refl _ _ | (go_grown; done) | exact bdrewN (by go_grown) _) (Nat.le_refl _)), (H.out.2.below (B := w.heap.size) (by first | exact Below.refl _ _ | (go_grown; done) | exact bdrewN (by go_grown) _) (Nat.le_refl _))⟩).mono ?_; rintro e w1 ⟨rfl, hb1⟩; obtain ⟨B1, hz1, q1, s1, t1, x1, y1, z1⟩ := bkeep (w := w) [w.heap.size, w.heap.size + 1, w.heap.size + 2] (by first | (simp; done) | (simp; omega)) (by first | (go_grown; done) | exact bdrewN (by go_grown) _) hb1; (try simp at hz1); clear hb1)
    have d0 : w1.cell? ⟨w.heap.size + 1 + 1, 0, none⟩ = some (.int .i64 0) := by simp [*, go_sem]
    have d1 : w1.cell? ⟨w.heap.size + 1 + 1, 1, none⟩ = some (.int .i64 0) := by simp [*, go_sem]
    clear q1
    refine bodyPost_ret (by simp [results, Try.results39, go_sem, *] <;> rfl) rfl ?_
    exact ⟨by rw [E1.out, E2.out, E3.out], (by first | with_reducible exact B1 | (go_grown; done) | with_reducible exact bdrewN B1 _ | (go_grown <;> first | with_reducible exact bdrewN B1 _ | with_reducible exact B1))⟩
end Go.Proofs.Ytmgmhaikehjddaa
