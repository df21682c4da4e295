/- Arcs: a layer to which a ray comes; its verdict; by the program and by the reference. -/
import Derived.Test.YtopggkomkfjbfaaGreatSine
namespace Go.Proofs.YtopggkomkfjbfaaGreat
set_option linter.unusedSimpArgs false
set_option linter.unusedVariables false
open Go.RowKit

abbrev arcV (A1 : Option Addr) (n1 c1 : Nat) (A2 : Option Addr) (n2 c2 : Nat) (src co si hy near far : Int) : Value :=
  .agg #[.slice A1 n1 c1, .slice A2 n2 c2, .int .i64 src, .int .i64 co, .int .i64 si, .int .i64 hy, .int .i64 near, .int .i64 far]
@[go_sem] theorem arcV_def (A1 : Option Addr) (n1 c1 : Nat) (A2 : Option Addr) (n2 c2 : Nat) (src co si hy near far : Int) : arcV A1 n1 c1 A2 n2 c2 src co si hy near far =
  .agg #[.slice A1 n1 c1, .slice A2 n2 c2, .int .i64 src, .int .i64 co, .int .i64 si, .int .i64 hy, .int .i64 near, .int .i64 far] := rfl
abbrev zarc : Value := .agg #[.slice none 0 0, .slice none 0 0, .int .i64 0, .int .i64 0, .int .i64 0, .int .i64 0, .int .i64 0, .int .i64 0]

/-- the near and the far knot -/
def nearK (l : Int) (ab : Bool) : Int := if ab then l else l + 1
def farK (l : Int) (ab : Bool) : Int := if ab then l + 1 else l
/-- the code of a ray and a layer -/
@[irreducible] def arcE (ds ss : List Int) (src co si hy l : Int) : Int := if rayE ds ss src co si hy 0 = 0 then (if inB l 0 ((ds.length : Int) - 2) then 0 else 2) else rayE ds ss src co si hy 0
theorem arc_ok {ds ss : List Int} {src co si hy l : Int} (h : arcE ds ss src co si hy l = 0) : RayOk ds ss src co si hy ∧ 0 ≤ l ∧ l + 1 < ss.length ∧ rayE ds ss src co si hy 0 = 0 ∧ inB l 0 ((ds.length : Int) - 2) = true := by
  unfold arcE at h
  by_cases h0 : rayE ds ss src co si hy 0 = 0
  · rw [if_pos h0] at h
    have r := rayOk_zero h0
    by_cases g : inB l 0 ((ds.length : Int) - 2) = true
    · obtain ⟨a, b⟩ := inB_bd g
      have := r.l3
      exact ⟨r, a, by omega, h0, g⟩
    · rw [if_neg g] at h; omega
  · rw [if_neg h0] at h; exact absurd h h0
theorem arc_shut {ds ss : List Int} {src co si hy l : Int} (h0 : rayE ds ss src co si hy 0 = 0) (h : arcE ds ss src co si hy l ≠ 0) : arcE ds ss src co si hy l = 2 ∧ inB l 0 ((ds.length : Int) - 2) = false := by
  unfold arcE at h ⊢
  rw [if_pos h0] at h ⊢
  rcases Bool.eq_false_or_eq_true (inB l 0 ((ds.length : Int) - 2)) with g | g
  · rw [if_pos g] at h; exact absurd rfl h
  · rw [g]; exact ⟨rfl, rfl⟩
theorem arc_bad {ds ss : List Int} {src co si hy l : Int} (h0 : rayE ds ss src co si hy 0 ≠ 0) : arcE ds ss src co si hy l = rayE ds ss src co si hy 0 := by
  unfold arcE; rw [if_neg h0]

set_option maxHeartbeats 1000000 in
theorem arc_any (A1 A2 : Option Addr) (n1 c1 n2 c2 : Nat) (src co si hy l : Int) (ab : Bool) (w : World) (l0 : 0 ≤ l) (l1 : l ≤ 100) :
    Calls Tryz.prog 86 #[rayV A1 n1 c1 A2 n2 c2 src co si hy, .int .i64 l, .bool ab] w fun e w' => e = .returned (arcV A1 n1 c1 A2 n2 c2 src co si hy (nearK l ab) (farK l ab)) ∧ Below w.heap.size w w' := by
  cases ab
  all_goals
    go_enter Tryz.func86, Tryz.ntmps86
    go_wp2
    go_returns
    exact ⟨rfl, by go_grown⟩
set_option maxHeartbeats 400000 in
theorem l06Ends_any (l : Int) (ab : Bool) (w : World) (l0 : 0 ≤ l) (l1 : l ≤ 100) :
    Calls Tryz.prog 83 #[.int .i64 l, .bool ab] w fun e w' => e = .returned (.tuple #[.int .i64 (nearK l ab), .int .i64 (farK l ab)]) ∧ w = w' := by
  cases ab
  all_goals
    go_enter Tryz.func83, Tryz.ntmps83
    go_wp2
    go_ret2
    exact ⟨rfl, rfl⟩
end Go.Proofs.YtopggkomkfjbfaaGreat
