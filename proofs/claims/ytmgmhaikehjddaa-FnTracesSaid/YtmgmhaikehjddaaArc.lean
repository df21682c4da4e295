/- Arcs: a layer to which a ray comes; its verdict; by the program and by the reference. -/
import Derived.Test.YtmgmhaikehjddaaSine
import Derived.Test.YtmgmhaikehjddaaGrad
namespace Go.Proofs.Ytmgmhaikehjddaa
set_option linter.unusedSimpArgs false
set_option linter.unusedVariables false
open Go.RowKit

abbrev arcV (A1 : Option Addr) (n1 c1 : Nat) (A2 : Option Addr) (n2 c2 : Nat) (src co si hy near far : Int) : Value :=
  .agg #[.slice A1 n1 c1, .slice A2 n2 c2, .int .i64 src, .int .i64 co, .int .i64 si, .int .i64 hy, .int .i64 near, .int .i64 far]
@[go_sem] theorem arcV_def (A1 : Option Addr) (n1 c1 : Nat) (A2 : Option Addr) (n2 c2 : Nat) (src co si hy near far : Int) : arcV A1 n1 c1 A2 n2 c2 src co si hy near far =
  .agg #[.slice A1 n1 c1, .slice A2 n2 c2, .int .i64 src, .int .i64 co, .int .i64 si, .int .i64 hy, .int .i64 near, .int .i64 far] := rfl
abbrev zarc : Value := .agg #[.slice none 0 0, .slice none 0 0, .int .i64 0, .int .i64 0, .int .i64 0, .int .i64 0, .int .i64 0, .int .i64 0]

/-- the near and the far knot -/
def nearK (l : Int) (ab : Bool) : Int := if ab then l else l + 1
def farK (l : Int) (ab : Bool) : Int := if ab then l + 1 else l
/-- the code of a ray and a layer -/
@[irreducible] def arcE (ds ss : List Int) (src co si hy l : Int) : Int := if rayE ds ss src co si hy 0 = 0 then (if inB l 0 ((ds.length : Int) - 2) then 0 else 2) else rayE ds ss src co si hy 0
theorem arc_ok {ds ss : List Int} {src co si hy l : Int} (h : arcE ds ss src co si hy l = 0) : RayOk ds ss src co si hy ∧ 0 ≤ l ∧ l + 1 < ss.length ∧ rayE ds ss src co si hy 0 = 0 ∧ inB l 0 ((ds.length : Int) - 2) = true := by
  unfold arcE at h
  by_cases h0 : rayE ds ss src co si hy 0 = 0
  · rw [if_pos h0] at h
    have r := rayOk_zero h0
    by_cases g : inB l 0 ((ds.length : Int) - 2) = true
    · obtain ⟨a, b⟩ := inB_bd g
      have := r.l3
      exact ⟨r, a, by omega, h0, g⟩
    · rw [if_neg g] at h; omega
  · rw [if_neg h0] at h; exact absurd h h0
theorem arc_shut {ds ss : List Int} {src co si hy l : Int} (h0 : rayE ds ss src co si hy 0 = 0) (h : arcE ds ss src co si hy l ≠ 0) : arcE ds ss src co si hy l = 2 ∧ inB l 0 ((ds.length : Int) - 2) = false := by
  unfold arcE at h ⊢
  rw [if_pos h0] at h ⊢
  rcases Bool.eq_false_or_eq_true (inB l 0 ((ds.length : Int) - 2)) with g | g
  · rw [if_pos g] at h; exact absurd rfl h
  · rw [g]; exact ⟨rfl, rfl⟩
theorem arc_bad {ds ss : List Int} {src co si hy l : Int} (h0 : rayE ds ss src co si hy 0 ≠ 0) : arcE ds ss src co si hy l = rayE ds ss src co si hy 0 := by
  unfold arcE; rw [if_neg h0]

set_option maxHeartbeats 1000000 in
theorem arc_any (A1 A2 : Option Addr) (n1 c1 n2 c2 : Nat) (src co si hy l : Int) (ab : Bool) (w : World) (l0 : 0 ≤ l) (l1 : l ≤ 100) :
    Calls Try.prog 193 #[rayV A1 n1 c1 A2 n2 c2 src co si hy, .int .i64 l, .bool ab] w fun e w' => e = .returned (arcV A1 n1 c1 A2 n2 c2 src co si hy (nearK l ab) (farK l ab)) ∧ Below w.heap.size w w' := by
  cases ab
  all_goals
    go_enter Try.func193, Try.ntmps193
    go_wp2
    go_returns
    exact ⟨rfl, by go_grown⟩
set_option maxHeartbeats 400000 in
theorem l06Ends_any (l : Int) (ab : Bool) (w : World) (l0 : 0 ≤ l) (l1 : l ≤ 100) :
    Calls Try.prog 124 #[.int .i64 l, .bool ab] w fun e w' => e = .returned (.tuple #[.int .i64 (nearK l ab), .int .i64 (farK l ab)]) ∧ w = w' := by
  cases ab
  all_goals
    go_enter Try.func124, Try.ntmps124
    go_wp2
    go_ret2
    exact ⟨rfl, rfl⟩
set_option maxHeartbeats 1000000 in
theorem l06Code_any (A1 A2 : Option Addr) (c1 c2 : Nat) (ds ss : List Int) (src co si hy l : Int) (w : World) (h : ProfAt w A1 c1 A2 c2 ds ss) :
    Calls Try.prog 113 #[profV A1 ds.length c1 A2 ss.length c2, .int .i64 src, dirV co si hy, .int .i64 l] w fun e w' => e = .returned (.int .i64 (arcE ds ss src co si hy l)) ∧ Below w.heap.size w w' := by
  have hn := Nat.le_trans h.1.1 h.1.2.1
  by_cases h0 : rayE ds ss src co si hy 0 = 0
  · have hE : (rayE ds ss src co si hy 0 == 0) = true := by rw [h0]; rfl
    have H := Lib.hid h; clear h
    rcases Bool.eq_false_or_eq_true (inB l 0 ((ds.length : Int) - 2)) with g | g
    · have HA : arcE ds ss src co si hy l = 0 := by unfold arcE; rw [if_pos h0, if_pos g]
      have HE := Lib.hid HA; have H0 := Lib.hid h0; clear HA h0
      go_enter Try.func113, Try.ntmps113
      go_wp2_with (first
        | (go_at_call 135; refine (l05Code_any _ _ _ _ _ _ _ _ _ _ _ _ ⟨(H.out.1.below (B := w.heap.size) (by first | exact Below.refl _ _ | (go_grown; done) | exact bdrewN (by go_grown) _) (Nat.le_refl _)), (H.out.2.below (B := w.heap.size) (by first | exact Below.refl _ _ | (go_grown; done) | exact bdrewN (by go_grown) _) (Nat.le_refl _))⟩).mono ?_; rintro e w1 ⟨rfl, hb1⟩; obtain ⟨B1, hz1, q1, s1, t1, x1, y1, z1⟩ := bkeep (w := w) [w.heap.size, w.heap.size + 1] (by first | (simp; done) | (simp; omega)) (by first | (go_grown; done) | exact bdrewN (by go_grown) _) hb1; (try simp at hz1); clear hb1)
        | (go_at_call 173; refine (l01In_any _ _ _ _).mono ?_; rintro e w' ⟨rfl, rfl⟩))
      go_ret
      exact ⟨ret_int (by rw [HE.out, H0.out]), (by first | with_reducible exact B1 | (go_grown; done) | with_reducible exact bdrewN B1 _ | (go_grown <;> first | with_reducible exact bdrewN B1 _ | with_reducible exact B1))⟩
    · have HA : arcE ds ss src co si hy l = 2 := by unfold arcE; rw [if_pos h0, g]; rfl
      have HE := Lib.hid HA; have H0 := Lib.hid h0; clear HA h0
      go_enter Try.func113, Try.ntmps113
      go_wp2_with (first
        | (go_at_call 135; refine (l05Code_any _ _ _ _ _ _ _ _ _ _ _ _ ⟨(H.out.1.below (B := w.heap.size) (by first | exact Below.refl _ _ | (go_grown; done) | exact bdrewN (by go_grown) _) (Nat.le_refl _)), (H.out.2.below (B := w.heap.size) (by first | exact Below.refl _ _ | (go_grown; done) | exact bdrewN (by go_grown) _) (Nat.le_refl _))⟩).mono ?_; rintro e w1 ⟨rfl, hb1⟩; obtain ⟨B1, hz1, q1, s1, t1, x1, y1, z1⟩ := bkeep (w := w) [w.heap.size, w.heap.size + 1] (by first | (simp; done) | (simp; omega)) (by first | (go_grown; done) | exact bdrewN (by go_grown) _) hb1; (try simp at hz1); clear hb1)
        | (go_at_call 173; refine (l01In_any _ _ _ _).mono ?_; rintro e w' ⟨rfl, rfl⟩))
      go_ret
      exact ⟨ret_int (by rw [HE.out]), (by first | with_reducible exact B1 | (go_grown; done) | with_reducible exact bdrewN B1 _ | (go_grown <;> first | with_reducible exact bdrewN B1 _ | with_reducible exact B1))⟩
  · have hE : (rayE ds ss src co si hy 0 == 0) = false := by simpa using h0
    have H := Lib.hid h; have HE := Lib.hid (arc_bad (l := l) h0); clear h h0
    go_enter Try.func113, Try.ntmps113
    go_wp2_with (go_at_call 135; refine (l05Code_any _ _ _ _ _ _ _ _ _ _ _ _ ⟨(H.out.1.below (B := w.heap.size) (by first | exact Below.refl _ _ | (go_grown; done) | exact bdrewN (by go_grown) _) (Nat.le_refl _)), (H.out.2.below (B := w.heap.size) (by first | exact Below.refl _ _ | (go_grown; done) | exact bdrewN (by go_grown) _) (Nat.le_refl _))⟩).mono ?_; rintro e w1 ⟨rfl, hb1⟩; obtain ⟨B1, hz1, q1, s1, t1, x1, y1, z1⟩ := bkeep (w := w) [w.heap.size, w.heap.size + 1] (by first | (simp; done) | (simp; omega)) (by first | (go_grown; done) | exact bdrewN (by go_grown) _) hb1; (try simp at hz1); clear hb1)
    go_ret
    exact ⟨ret_int (by rw [HE.out]), (by first | with_reducible exact B1 | (go_grown; done) | with_reducible exact bdrewN B1 _ | (go_grown <;> first | with_reducible exact bdrewN B1 _ | with_reducible exact B1))⟩
set_option maxHeartbeats 2000000 in
theorem newArc_ok (A1 A2 : Option Addr) (c1 c2 : Nat) (ds ss : List Int) (src co si hy l : Int) (ab : Bool) (w : World) (h : ProfAt w A1 c1 A2 c2 ds ss) (ho : arcE ds ss src co si hy l = 0) :
    Calls Try.prog 116 #[profV A1 ds.length c1 A2 ss.length c2, .int .i64 src, dirV co si hy, .int .i64 l, .bool ab] w fun e w' => e = .returned (.tuple #[arcV A1 ds.length c1 A2 ss.length c2 src co si hy (nearK l ab) (farK l ab), .int .i64 0]) ∧ Below w.heap.size w w' := by
  have hn := Nat.le_trans h.1.1 h.1.2.1
  obtain ⟨r, l0, l1, h0, g⟩ := arc_ok ho
  have hl : l ≤ 100 := by have := r.l1; have := r.l2; omega
  rw [show (ds.length : Int) - 2 = (ds.length : Int) - 1 - 1 by omega] at g
  have H := Lib.hid h; have R := Lib.hid r; clear h r ho h0
  go_enter Try.func116, Try.ntmps116
  go_wp2_with (first
    | (go_at_call 132; refine (newRay_ok _ _ _ _ _ _ _ _ _ _ _ ⟨(H.out.1.below (B := w.heap.size) (by first | exact Below.refl _ _ | (go_grown; done) | exact bdrewN (by go_grown) _) (Nat.le_refl _)), (H.out.2.below (B := w.heap.size) (by first | exact Below.refl _ _ | (go_grown; done) | exact bdrewN (by go_grown) _) (Nat.le_refl _))⟩ R.out).mono ?_; rintro e w1 ⟨rfl, hb1⟩; obtain ⟨B1, hz1, q1, s1, t1, x1, y1, z1⟩ := bkeep (w := w) [w.heap.size, w.heap.size + 1, w.heap.size + 2] (by first | (simp; done) | (simp; omega)) (by first | (go_grown; done) | exact bdrewN (by go_grown) _) hb1; (try simp at hz1); clear hb1)
    | (go_at_call 103; refine (isLayer_any _ _ _ _ _ _ _ _ hn).mono ?_; rintro e w2 ⟨rfl, hb2⟩; obtain ⟨B2, hz2, q2, s2, t2, x2, y2, z2⟩ := bkeep (w := w) [w.heap.size, w.heap.size + 1, w.heap.size + 2, w1.heap.size] (by first | (simp; done) | (simp; omega)) (by first | (go_grown; done) | exact bdrewN (by go_grown) _) hb2; (try simp at hz2); clear hb2)
    | (go_at_call 193; refine (arc_any _ _ _ _ _ _ _ _ _ _ _ _ _ l0 hl).mono ?_; rintro e w3 ⟨rfl, hb3⟩; obtain ⟨B3, hz3, q3, s3, t3, x3, y3, z3⟩ := bkeep (w := w) [w.heap.size, w.heap.size + 1, w.heap.size + 2] (by first | (simp; done) | (simp; omega)) (by first | (go_grown; done) | exact bdrewN (by go_grown) _) hb3; (try simp at hz3); clear hb3; have c0 : w3.cell? ⟨w.heap.size + 1 + 1, 0, none⟩ = some (.slice none 0 0) := (by simp [*, go_sem]); have c1 : w3.cell? ⟨w.heap.size + 1 + 1, 1, none⟩ = some (.slice none 0 0) := (by simp [*, go_sem]); have c2 : w3.cell? ⟨w.heap.size + 1 + 1, 2, none⟩ = some (.int .i64 0) := (by simp [*, go_sem]); have c3 : w3.cell? ⟨w.heap.size + 1 + 1, 3, none⟩ = some (.int .i64 0) := (by simp [*, go_sem]); have c4 : w3.cell? ⟨w.heap.size + 1 + 1, 4, none⟩ = some (.int .i64 0) := (by simp [*, go_sem]); have c5 : w3.cell? ⟨w.heap.size + 1 + 1, 5, none⟩ = some (.int .i64 0) := (by simp [*, go_sem]); have c6 : w3.cell? ⟨w.heap.size + 1 + 1, 6, none⟩ = some (.int .i64 0) := (by simp [*, go_sem]); have c7 : w3.cell? ⟨w.heap.size + 1 + 1, 7, none⟩ = some (.int .i64 0) := (by simp [*, go_sem]); have fz : ∀ o, w3.frozen? ⟨w.heap.size + 1 + 1, o, none⟩ = false := (fun o => by simp [*, go_sem]); clear q1 q2 q3 s1 s2 s3))
  refine bodyPost_ret (by simp [results, Try.results116, go_sem, *] <;> rfl) rfl ?_
  exact ⟨rfl, (by first | with_reducible exact B3 | (go_grown; done) | with_reducible exact bdrewN B3 _ | (go_grown <;> first | with_reducible exact bdrewN B3 _ | with_reducible exact B3))⟩
end Go.Proofs.Ytmgmhaikehjddaa
