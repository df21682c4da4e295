/- Arcs: a layer to which a ray comes; its verdict; by the program and by the reference. -/
import Derived.Test.YtopggkomkfjbfaaSine
namespace Go.Proofs.Ytopggkomkfjbfaa
set_option linter.unusedSimpArgs false
set_option linter.unusedVariables false
open Go.RowKit

abbrev arcV (A1 : Option Addr) (n1 c1 : Nat) (A2 : Option Addr) (n2 c2 : Nat) (src co si hy near far : Int) : Value :=
  .agg #[.slice A1 n1 c1, .slice A2 n2 c2, .int .i64 src, .int .i64 co, .int .i64 si, .int .i64 hy, .int .i64 near, .int .i64 far]
@[go_sem] theorem arcV_def (A1 : Option Addr) (n1 c1 : Nat) (A2 : Option Addr) (n2 c2 : Nat) (src co si hy near far : Int) : arcV A1 n1 c1 A2 n2 c2 src co si hy near far =
  .agg #[.slice A1 n1 c1, .slice A2 n2 c2, .int .i64 src, .int .i64 co, .int .i64 si, .int .i64 hy, .int .i64 near, .int .i64 far] := rfl
abbrev zarc : Value := .agg #[.slice none 0 0, .slice none 0 0, .int .i64 0, .int .i64 0, .int .i64 0, .int .i64 0, .int .i64 0, .int .i64 0]

/-- the near and the far knot -/
def nearK (l : Int) (ab : Bool) : Int := if ab then l else l + 1
def farK (l : Int) (ab : Bool) : Int := if ab then l + 1 else l
/-- the code of a ray and a layer -/
@[irreducible] def arcE (ds ss : List Int) (src co si hy l : Int) : Int := if rayE ds ss src co si hy 0 = 0 then (if inB l 0 ((ds.length : Int) - 2) then 0 else 2) else rayE ds ss src co si hy 0
theorem arc_ok {ds ss : List Int} {src co si hy l : Int} (h : arcE ds ss src co si hy l = 0) : RayOk ds ss src co si hy ∧ 0 ≤ l ∧ l + 1 < ss.length ∧ rayE ds ss src co si hy 0 = 0 ∧ inB l 0 ((ds.length : Int) - 2) = true := by
  unfold arcE at h
  by_cases h0 : rayE ds ss src co si hy 0 = 0
  · rw [if_pos h0] at h
    have r := rayOk_zero h0
    by_cases g : inB l 0 ((ds.length : Int) - 2) = true
    · obtain ⟨a, b⟩ := inB_bd g
      have := r.l3
      exact ⟨r, a, by omega, h0, g⟩
    · rw [if_neg g] at h; omega
  · rw [if_neg h0] at h; exact absurd h h0
theorem arc_shut {ds ss : List Int} {src co si hy l : Int} (h0 : rayE ds ss src co si hy 0 = 0) (h : arcE ds ss src co si hy l ≠ 0) : arcE ds ss src co si hy l = 2 ∧ inB l 0 ((ds.length : Int) - 2) = false := by
  unfold arcE at h ⊢
  rw [if_pos h0] at h ⊢
  rcases Bool.eq_false_or_eq_true (inB l 0 ((ds.length : Int) - 2)) with g | g
  · rw [if_pos g] at h; exact absurd rfl h
  · rw [g]; exact ⟨rfl, rfl⟩
theorem arc_bad {ds ss : List Int} {src co si hy l : Int} (h0 : rayE ds ss src co si hy 0 ≠ 0) : arcE ds ss src co si hy l = rayE ds ss src co si hy 0 := by
  unfold arcE; rw [if_neg h0]

set_option maxHeartbeats 1000000 in
theorem arc_any (A1 A2 : Option Addr) (n1 c1 n2 c2 : Nat) (src co si hy l : Int) (ab : Bool) (w : World) (l0 : 0 ≤ l) (l1 : l ≤ 100) :
    Calls Try.prog 95 #[rayV A1 n1 c1 A2 n2 c2 src co si hy, .int .i64 l, .bool ab] w fun e w' => e = .returned (arcV A1 n1 c1 A2 n2 c2 src co si hy (nearK l ab) (farK l ab)) ∧ Below w.heap.size w w' := by
  cases ab
  all_goals
    go_enter Try.func95, Try.ntmps95
    go_wp2
    go_returns
    exact ⟨rfl, by go_grown⟩
set_option maxHeartbeats 400000 in
theorem l06Ends_any (l : Int) (ab : Bool) (w : World) (l0 : 0 ≤ l) (l1 : l ≤ 100) :
    Calls Try.prog 90 #[.int .i64 l, .bool ab] w fun e w' => e = .returned (.tuple #[.int .i64 (nearK l ab), .int .i64 (farK l ab)]) ∧ w = w' := by
  cases ab
  all_goals
    go_enter Try.func90, Try.ntmps90
    go_wp2
    go_ret2
    exact ⟨rfl, rfl⟩
set_option maxHeartbeats 1000000 in
theorem l06Code_any (A1 A2 : Option Addr) (c1 c2 : Nat) (ds ss : List Int) (src co si hy l : Int) (w : World) (h : ProfAt w A1 c1 A2 c2 ds ss) :
    Calls Try.prog 88 #[profV A1 ds.length c1 A2 ss.length c2, .int .i64 src, dirV co si hy, .int .i64 l] w fun e w' => e = .returned (.int .i64 (arcE ds ss src co si hy l)) ∧ Below w.heap.size w w' := by
  have hn := Nat.le_trans h.1.1 h.1.2.1
  by_cases h0 : rayE ds ss src co si hy 0 = 0
  · have hE : (rayE ds ss src co si hy 0 == 0) = true := by rw [h0]; rfl
    have H := Lib.hid h; clear h
    rcases Bool.eq_false_or_eq_true (inB l 0 ((ds.length : Int) - 2)) with g | g
    · have HA : arcE ds ss src co si hy l = 0 := by unfold arcE; rw [if_pos h0, if_pos g]
      have HE := Lib.hid HA; have H0 := Lib.hid h0; clear HA h0
      go_enter Try.func88, Try.ntmps88
      go_wp2_with (first
        | (go_at_call 87; refine (l05Code_any _ _ _ _ _ _ _ _ _ _ _ _ ⟨(H.out.1.below (B := w.heap.size) (by first | exact Below.refl _ _ | (go_grown; done) | exact bdrewN (by go_grown) _) (Nat.le_refl _)), (H.out.2.below (B := w.heap.size) (by first | exact Below.refl _ _ | (go_grown; done) | exact bdrewN (by go_grown) _) (Nat.le_refl _))⟩).mono ?_; rintro e w1 ⟨rfl, hb1⟩; obtain ⟨B1, hz1, q1, s1, t1, x1, y1, z1⟩ := bkeep (w := w) [w.heap.size, w.heap.size + 1] (by first | (simp; done) | (simp; omega)) (by first | (go_grown; done) | exact bdrewN (by go_grown) _) hb1; (try simp at hz1); clear hb1)
        | (go_at_call 77; refine (l01In_any _ _ _ _).mono ?_; rintro e w' ⟨rfl, rfl⟩))
      go_ret
      exact ⟨ret_int (by rw [HE.out, H0.out]), (by first | with_reducible exact B1 | (go_grown; done) | with_reducible exact bdrewN B1 _ | (go_grown <;> first | with_reducible exact bdrewN B1 _ | with_reducible exact B1))⟩
    · have HA : arcE ds ss src co si hy l = 2 := by unfold arcE; rw [if_pos h0, g]; rfl
      have HE := Lib.hid HA; have H0 := Lib.hid h0; clear HA h0
      go_enter Try.func88, Try.ntmps88
      go_wp2_with (first
        | (go_at_call 87; refine (l05Code_any _ _ _ _ _ _ _ _ _ _ _ _ ⟨(H.out.1.below (B := w.heap.size) (by first | exact Below.refl _ _ | (go_grown; done) | exact bdrewN (by go_grown) _) (Nat.le_refl _)), (H.out.2.below (B := w.heap.size) (by first | exact Below.refl _ _ | (go_grown; done) | exact bdrewN (by go_grown) _) (Nat.le_refl _))⟩).mono ?_; rintro e w1 ⟨rfl, hb1⟩; obtain ⟨B1, hz1, q1, s1, t1, x1, y1, z1⟩ := bkeep (w := w) [w.heap.size, w.heap.size + 1] (by first | (simp; done) | (simp; omega)) (by first | (go_grown; done) | exact bdrewN (by go_grown) _) hb1; (try simp at hz1); clear hb1)
        | (go_at_call 77; refine (l01In_any _ _ _ _).mono ?_; rintro e w' ⟨rfl, rfl⟩))
      go_ret
      exact ⟨ret_int (by rw [HE.out]), (by first | with_reducible exact B1 | (go_grown; done) | with_reducible exact bdrewN B1 _ | (go_grown <;> first | with_reducible exact bdrewN B1 _ | with_reducible exact B1))⟩
  · have hE : (rayE ds ss src co si hy 0 == 0) = false := by simpa using h0
    have H := Lib.hid h; have HE := Lib.hid (arc_bad (l := l) h0); clear h h0
    go_enter Try.func88, Try.ntmps88
    go_wp2_with (go_at_call 87; refine (l05Code_any _ _ _ _ _ _ _ _ _ _ _ _ ⟨(H.out.1.below (B := w.heap.size) (by first | exact Below.refl _ _ | (go_grown; done) | exact bdrewN (by go_grown) _) (Nat.le_refl _)), (H.out.2.below (B := w.heap.size) (by first | exact Below.refl _ _ | (go_grown; done) | exact bdrewN (by go_grown) _) (Nat.le_refl _))⟩).mono ?_; rintro e w1 ⟨rfl, hb1⟩; obtain ⟨B1, hz1, q1, s1, t1, x1, y1, z1⟩ := bkeep (w := w) [w.heap.size, w.heap.size + 1] (by first | (simp; done) | (simp; omega)) (by first | (go_grown; done) | exact bdrewN (by go_grown) _) hb1; (try simp at hz1); clear hb1)
    go_ret
    exact ⟨ret_int (by rw [HE.out]), (by first | with_reducible exact B1 | (go_grown; done) | with_reducible exact bdrewN B1 _ | (go_grown <;> first | with_reducible exact bdrewN B1 _ | with_reducible exact B1))⟩
end Go.Proofs.Ytopggkomkfjbfaa
