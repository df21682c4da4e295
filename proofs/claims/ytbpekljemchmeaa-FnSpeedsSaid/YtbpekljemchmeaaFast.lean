/- Knots: the codes; the greatest speed of the knots up to a knot. -/
import Derived.Test.YtbpekljemchmeaaProf2
import Derived.Deep.RegionHeld3
namespace Go.Proofs.Ytbpekljemchmeaa
set_option linter.unusedSimpArgs false
set_option linter.unusedVariables false
open Go.RowKit

@[go_sem] theorem mkFunc (fn : Fn) (first cap : Array Value) (w : World) : (Instr.makeFunc fn first cap).run Try.prog w = .ok (.func fn first cap) w := rfl

/-- the code of a profile and an index below n - less -/
def knotE (ds ss : List Int) (k less : Int) : Int := if profB ds ss then (if inB k 0 ((ds.length : Int) - 1 - less) then 0 else 2) else 1

set_option maxHeartbeats 400000 in
theorem last_any (A1 A2 : Option Addr) (c1 c2 n1 n2 : Nat) (w : World) (hn : n1 ≤ 9223372036854775807) :
    Calls Try.prog 25 #[profV A1 n1 c1 A2 n2 c2] w fun e w' => e = .returned (.int .i64 ((n1 : Int) - 1)) ∧ Below w.heap.size w w' := by
  go_enter Try.func25, Try.ntmps25
  go_wp2_with (go_at_call 31; refine (length_any _ _ _ _ hn).mono ?_; rintro e w' ⟨rfl, rfl⟩)
  go_ret
  exact ⟨rfl, by go_grown⟩




theorem prof_len {ds ss : List Int} (h : profB ds ss = true) : 2 ≤ ds.length ∧ ds.length ≤ 12 ∧ ss.length ≤ ds.length ∧ ds.length ≤ ss.length := by
  simp [profB] at h; omega
theorem prof_speed {ds ss : List Int} (h : profB ds ss = true) {i : Nat} {x : Int} (hx : ss[i]? = some x) : 1300000 ≤ x ∧ x ≤ 1700000 := by
  simp only [profB, Bool.and_eq_true] at h
  exact inB_bd (List.all_eq_true.1 h.2 _ (List.mem_of_getElem? hx))
theorem prof_ris {ds ss : List Int} (h : profB ds ss = true) : risB ds 1000001 = true := by
  simp only [profB, Bool.and_eq_true] at h
  exact h.1.1.2
theorem prof_zero {ds ss : List Int} (h : profB ds ss = true) : ds[0]? = some 0 := by
  simp only [profB, Bool.and_eq_true] at h
  simpa using h.1.2

/-- the greatest of 0 and the first k numbers -/
def mxTo (xs : List Int) : Nat → Int
  | 0 => 0
  | k + 1 => if mxTo xs k < xs[k]?.getD 0 then xs[k]?.getD 0 else mxTo xs k
theorem mxTo_succ {xs : List Int} {k : Nat} {x : Int} (h : xs[k]? = some x) : mxTo xs (k + 1) = if mxTo xs k < x then x else mxTo xs k := by rw [mxTo, h]; rfl
theorem mxTo_take (xs : List Int) (n : Nat) : ∀ k, k ≤ n → mxTo (xs.take n) k = mxTo xs k := by
  intro k
  induction k with
  | zero => intro _; rfl
  | succ k ih =>
    intro h
    have e : (xs.take n)[k]? = xs[k]? := by rw [List.getElem?_take, if_pos (by omega)]
    rw [mxTo, mxTo, ih (by omega), e]
theorem IntsAt.take {w : World} {A : Option Addr} {c : Nat} {xs : List Int} (h : IntsAt w A c xs) (n : Nat) : IntsAt w A c (xs.take n) := by
  refine ⟨by rw [List.length_take]; have := h.1; omega, h.2.1, ?_⟩
  rcases h.2.2 with rfl | ⟨b, off, e, hb, hc⟩
  · exact .inl (by simp)
  · refine .inr ⟨b, off, e, hb, fun i x hx => hc i x ?_⟩
    rw [List.getElem?_take] at hx
    split at hx
    · exact hx
    · cases hx


def fastI (ds ss : List Int) (k : Int) : Int := if knotE ds ss k 0 = 0 then mxTo ss (k.toNat + 1) else 0


theorem knot_ok {ds ss : List Int} {k less : Int} (h0 : knotE ds ss k less = 0) : profB ds ss = true ∧ 0 ≤ k ∧ k ≤ (ds.length : Int) - 1 - less := by
  have hv : profB ds ss = true := by
    unfold knotE at h0; split at h0
    · assumption
    · omega
  have hin : inB k 0 ((ds.length : Int) - 1 - less) = true := by
    unfold knotE at h0; rw [if_pos hv] at h0; split at h0
    · assumption
    · omega
  exact ⟨hv, inB_bd hin⟩

end Go.Proofs.Ytbpekljemchmeaa
