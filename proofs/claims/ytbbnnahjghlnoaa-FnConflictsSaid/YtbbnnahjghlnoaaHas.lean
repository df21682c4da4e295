/- Whether a list has a number: the laws' own search. -/
import Derived.Test.YtbbnnahjghlnoaaProf2
namespace Go.Proofs.Ytbbnnahjghlnoaa
set_option linter.unusedSimpArgs false
set_option linter.unusedVariables false
open Go.RowKit

def hasB (xs : List Int) (x : Int) : Bool := xs.any (fun y => decide (y = x))
theorem has_stop {xs : List Int} {x y : Int} {k : Nat} (h : xs[k]? = some y) (e : y = x) : hasB xs x = true := by
  unfold hasB; rw [List.any_eq_true]; exact ⟨y, List.mem_of_getElem? h, by simp [e]⟩
theorem has_none {xs : List Int} {x : Int} (h : ∀ (i : Nat) y, xs[i]? = some y → y ≠ x) : hasB xs x = false := by
  unfold hasB; rw [List.any_eq_false]
  intro y hy
  obtain ⟨i, hi⟩ := List.getElem?_of_mem hy
  simp [h i y hi]
set_option maxHeartbeats 1000000 in
theorem hasInt_any (A : Option Addr) (c : Nat) (xs : List Int) (x : Int) (w : World) (hx : IntsAt w A c xs) :
    Calls Try.prog 25 #[.slice A xs.length c, .int .i64 x] w fun e w' => e = .returned (.bool (hasB xs x)) ∧ Below w.heap.size w w' := by
  have hn := Nat.le_trans hx.1 hx.2.1
  have HX := Lib.hid hx; clear hx
  go_enter Try.func25, Try.ntmps25
  go_wp2
  go_loop [5] (fun i => ∃ k : Nat, k ≤ xs.length ∧ i = .int .i64 k ∧ ∀ (i : Nat) y, i < k → xs[i]? = some y → y ≠ x) (fun i => xs.length - (intOf i).toNat)
  case atStart => exact ⟨0, by omega, rfl, fun i y h => absurd h (by omega)⟩
  case round =>
    obtain ⟨k, hk, rfl, ha⟩ := hrel
    have HA := Lib.hid ha; clear ha
    by_cases hlt : k < xs.length
    · obtain ⟨b, off, y, rfl, hb, hxk, hc⟩ := HX.out.at_ hlt
      have HK := Lib.hid hxk; clear hxk
      have hk0 : (0 : Int) ≤ (k : Int) := Int.natCast_nonneg _
      have hk1 : (k : Int) < (xs.length : Int) := by omega
      by_cases hxy : y = x
      · have HE := Lib.hid (has_stop HK.out hxy)
        subst hxy
        go_wp2
        go_ret
        exact ⟨ret_bool HE.out.symm, Below.refl _ _⟩
      · have hb1 : (y == x) = false := beq_eq_false_iff_ne.2 hxy
        go_wp2
        go_round
        case rel => exact ⟨k + 1, by omega, by go_num, fun i z hi hz => by
                          by_cases e : i = k
                          · subst e; rw [HK.out] at hz; injection hz with hz; subst hz; exact hxy
                          · exact HA.out i z (by omega) hz⟩
        case measure => simp [intOf]; omega
    · have HE := Lib.hid (has_none (xs := xs) (x := x) (fun i y hy => HA.out i y (by have := (List.getElem?_eq_some_iff.1 hy).1; omega) hy))
      go_wp2
      go_ret
      exact ⟨ret_bool HE.out.symm, Below.refl _ _⟩
end Go.Proofs.Ytbbnnahjghlnoaa
