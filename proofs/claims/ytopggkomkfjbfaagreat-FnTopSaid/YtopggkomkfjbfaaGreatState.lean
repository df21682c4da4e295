/- States of rays: the first state, what a state is; by the program and by the reference. -/
import Derived.Test.YtopggkomkfjbfaaGreatCross
namespace Go.Proofs.YtopggkomkfjbfaaGreat
set_option linter.unusedSimpArgs false
set_option linter.unusedVariables false
open Go.RowKit

abbrev rsV (k : Int) (dn : Bool) (lo hi : Int) : Value := .agg #[.int .i64 k, .bool dn, .int .i64 lo, .int .i64 hi]
@[go_sem] theorem rsV_def (k : Int) (dn : Bool) (lo hi : Int) : rsV k dn lo hi = .agg #[.int .i64 k, .bool dn, .int .i64 lo, .int .i64 hi] := rfl
@[irreducible] def fsK (ds ss : List Int) (src co si hy : Int) : Int := if rayE ds ss src co si hy 0 = 0 then src else 0
@[irreducible] def fsD (ds ss : List Int) (src co si hy : Int) : Bool := decide (rayE ds ss src co si hy 0 = 0) && decide (0 < si)

set_option maxHeartbeats 400000 in
theorem l07First_any (src co si hy : Int) (w : World) :
    Calls Tryz.prog 71 #[.int .i64 src, dirV co si hy] w fun e w' => e = .returned (rsV src (decide (0 < si)) 0 0) ∧ Below w.heap.size w w' := by
  go_enter Tryz.func71, Tryz.ntmps71
  go_wp2
  go_returns
  exact ⟨rfl, by go_grown⟩
set_option maxHeartbeats 400000 in
theorem first_any (A1 A2 : Option Addr) (n1 c1 n2 c2 : Nat) (src co si hy : Int) (w : World) :
    Calls Tryz.prog 57 #[rayV A1 n1 c1 A2 n2 c2 src co si hy] w fun e w' => e = .returned (rsV src (decide (0 < si)) 0 0) ∧ Below w.heap.size w w' := by
  go_enter Tryz.func57, Tryz.ntmps57
  go_wp2
  go_returns
  exact ⟨rfl, by go_grown⟩

/-! intervals -/
def isV (x : Int) : Bool := inB x (-1000000000000) 1000000000000
def isI (a b : Int) : Bool := isV a && isV b && decide (a ≤ b)
set_option maxHeartbeats 400000 in
theorem isValue_any (x : Int) (w : World) :
    Calls Tryz.prog 80 #[.int .i64 x] w fun e w' => e = .returned (.bool (isV x)) ∧ w = w' := by
  go_enter Tryz.func80, Tryz.ntmps80
  go_wp2_with (go_at_call 25; refine (within_any _ _ _ _).mono ?_; rintro e w' ⟨rfl, rfl⟩)
  go_ret
  exact ⟨rfl, rfl⟩
set_option maxHeartbeats 400000 in
theorem l01Is_any (x : Int) (w : World) :
    Calls Tryz.prog 84 #[.int .i64 x] w fun e w' => e = .returned (.bool (isV x)) ∧ w = w' := by
  go_enter Tryz.func84, Tryz.ntmps84
  go_wp2_with (go_at_call 53; refine (l01In_any _ _ _ _).mono ?_; rintro e w' ⟨rfl, rfl⟩)
  go_ret
  exact ⟨rfl, rfl⟩

/-! what a state is -/
def stB (ds ss : List Int) (src co si hy k lo hi : Int) : Bool := crossI ds ss src co si hy k && isI lo hi && decide (0 ≤ lo)
end Go.Proofs.YtopggkomkfjbfaaGreat
