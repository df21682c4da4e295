/- One sounding: its bounds; the law on DepthBounds. -/
import Derived.Test.YtebdokpokbcgjaaDoorW2
namespace Go.Proofs.YtebdokpokbcgjaaDoor
set_option linter.unusedSimpArgs false
set_option linter.unusedVariables false
open Go.RowKit

abbrev sndV (a b c d : Int) : Value := .agg #[.int .i64 a, .int .i64 b, .int .i64 c, .int .i64 d]
@[go_sem] theorem sndV_def (a b c d : Int) : sndV a b c d = .agg #[.int .i64 a, .int .i64 b, .int .i64 c, .int .i64 d] := rfl

set_option maxHeartbeats 400000 in
theorem toSounding_any (a b c d : Int) (w : World) :
    Calls Tryd.prog 57 #[sndV a b c d] w fun e w' => e = .returned (sndV a b c d) ∧ Below w.heap.size w w' := by
  go_enter Tryd.func57, Tryd.ntmps57
  go_wp2
  go_returns
  refine ⟨rfl, ?_⟩
  go_grown

def sndB (a b c d : Int) : Bool := inB a 0 10000 && inB b 0 10000 && inB c (-2000) 1000000 && inB d 0 5000

set_option maxHeartbeats 400000 in
theorem l21Is_any (a b c d : Int) (w : World) :
    Calls Tryd.prog 91 #[sndV a b c d] w fun e w' => e = .returned (.bool (sndB a b c d)) ∧ Below w.heap.size w w' := by
  go_enter Tryd.func91, Tryd.ntmps91
  go_wp2_with (go_at_call 74; refine (l01In_any _ _ _ _).mono ?_; rintro e w' ⟨rfl, rfl⟩)
  all_goals (go_returns; exact ⟨by simp [sndB, *], by go_grown⟩)



theorem sndB_bd {a b c d : Int} (h : sndB a b c d = true) : -2000 ≤ c ∧ c ≤ 1000000 ∧ 0 ≤ d ∧ d ≤ 5000 := by
  simp [sndB, inB] at h; omega

def depthBoundsL (a b c d : Int) : Int := if sndB a b c d then c - d else 0
def depthBoundsH (a b c d : Int) : Int := if sndB a b c d then c + d else 0
def depthBoundsE (a b c d : Int) : Int := if sndB a b c d then 0 else 1


set_option maxHeartbeats 400000 in
theorem isField_any (A : Option Addr) (c : Nat) (xs : List Int) (w : World) (hx : IntsAt w A c xs) :
    Calls Tryd.prog 106 #[.slice A xs.length c] w fun e w' => e = .returned (.bool (xs.all (inB · 0 10000))) ∧ w = w' := by
  go_enter Tryd.func106, Tryd.ntmps106
  go_wp2_with (go_at_call 78; refine (areWithin_any _ _ _ _ _ _ hx).mono ?_; rintro e w' ⟨rfl, rfl⟩)
  go_ret
  exact ⟨rfl, rfl⟩

set_option maxHeartbeats 400000 in
theorem isSounding_any (a b c d : Int) (w : World) :
    Calls Tryd.prog 94 #[sndV a b c d] w fun e w' => e = .returned (.bool (sndB a b c d)) ∧ Below w.heap.size w w' := by
  go_enter Tryd.func94, Tryd.ntmps94
  go_wp2_with (first
    | (go_at_call 73; refine (within_any _ _ _ _).mono ?_; rintro e w' ⟨rfl, rfl⟩)
    | (go_at_call 106; refine (isField_any _ _ [a, b] _ ⟨by simp, by simp, .inr ⟨_, _, rfl, by simp, fun i x hx => by rcases i with _ | _ | i <;> simp at hx <;> subst hx <;> simp⟩⟩).mono ?_; rintro e w' ⟨rfl, rfl⟩))
  all_goals (go_returns; exact ⟨ret_bool (by simp_all [sndB]), by go_grown⟩)


end Go.Proofs.YtebdokpokbcgjaaDoor
