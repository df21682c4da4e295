/- The binary search of the library, at numbers. -/
import Derived.Test.YtjabldjffpjkeaaLev0
import Derived.Deep.LoopGhost
namespace Go.Proofs.Ytjabldjffpjkeaa
set_option linter.unusedSimpArgs false
set_option linter.unusedVariables false
open Go.RowKit

set_option maxHeartbeats 400000 in
theorem cmpNaN_any (x : Int) (w : World) : Calls Try.prog 74 #[.int .i64 x] w fun e w' => e = .returned (.bool false) ∧ w = w' := by
  go_enter Try.func74, Try.ntmps74
  go_wp2
  go_ret
  exact ⟨by simp, rfl⟩
set_option maxHeartbeats 400000 in
theorem slNaN_any (x : Int) (w : World) : Calls Try.prog 70 #[.int .i64 x] w fun e w' => e = .returned (.bool false) ∧ w = w' := by
  go_enter Try.func70, Try.ntmps70
  go_wp2
  go_ret
  exact ⟨by simp, rfl⟩
set_option maxHeartbeats 400000 in
theorem cmpLess_any (x y : Int) (w : World) : Calls Try.prog 69 #[.int .i64 x, .int .i64 y] w fun e w' => e = .returned (.bool (decide (x < y))) ∧ w = w' := by
  go_enter Try.func69, Try.ntmps69
  go_wp2_with (go_at_call 74; refine (cmpNaN_any _ _).mono ?_; rintro e w' ⟨rfl, rfl⟩)
  go_ret
  exact ⟨rfl, rfl⟩
set_option maxHeartbeats 4000000 in
set_option maxRecDepth 1000000 in
theorem binSearch_any (A : Option Addr) (c : Nat) (ts : List Int) (x : Int) (i : Nat) (w : World) (h : IntsAt w A c ts) (h1 : 1 ≤ ts.length) (h2 : ts.length ≤ 40) (hi : BsAt ts x i) :
    Calls Try.prog 62 #[.slice A ts.length c, .int .i64 x] w fun e w' => e = .returned (.tuple #[.int .i64 i, .bool (decide (i < ts.length ∧ spd ts i = x))]) ∧ w = w' := by
  obtain ⟨b, off, rfl, hb, hc⟩ := h.spd (by omega)
  have HC := Lib.hid hc; have HI := Lib.hid hi; clear hc hi h
  have le := HI.out.le
  obtain ⟨f, hf⟩ : ∃ f, decide (i < ts.length ∧ spd ts i = x) = f := ⟨_, rfl⟩
  rw [hf]
  have HF := Lib.hid hf; clear hf
  go_enter Try.func62, Try.ntmps62
  go_wp2
  go_loopg [7, 8] ts.length (fun g s7 s8 wr => ∃ lo hi : Nat, s7 = .int .i64 lo ∧ s8 = .int .i64 hi ∧ lo ≤ i ∧ i ≤ hi ∧ hi ≤ ts.length ∧ hi - lo ≤ g ∧ wr = w)
  case atStart => exact ⟨0, ts.length, rfl, rfl, by omega, by omega, by omega, by omega, rfl⟩
  case round =>
    obtain ⟨lo, hi, rfl, rfl, hl, hh, hn, hg, rfl⟩ := hrel
    by_cases hlt : lo < hi
    · have cm := HC.out ((lo + hi) / 2) (by omega)
      by_cases hyx : (lo + hi) / 2 < i
      · have hv := HI.out.lo _ hyx
        generalize spd ts ((lo + hi) / 2 : Nat) = y at cm hv
        go_wp2_with (go_at_call 69; refine (cmpLess_any _ _ _).mono ?_; rintro e w' ⟨rfl, rfl⟩)
        go_roundg (hi - ((lo + hi) / 2 + 1))
        case measure => omega
        case rel => exact ⟨(lo + hi) / 2 + 1, hi, by rw [show ((lo : Int) + (hi : Int)) / 2 + 1 = (((lo + hi) / 2 + 1 : Nat) : Int) by omega], rfl, by omega, hh, hn, Nat.le_refl _, rfl⟩
      · have hv := HI.out.hi ((lo + hi) / 2) (by omega) (by omega)
        have hv : ¬ spd ts ((lo + hi) / 2 : Nat) < x := by omega
        generalize spd ts ((lo + hi) / 2 : Nat) = y at cm hv
        go_wp2_with (go_at_call 69; refine (cmpLess_any _ _ _).mono ?_; rintro e w' ⟨rfl, rfl⟩)
        go_roundg ((lo + hi) / 2 - lo)
        case measure => omega
        case rel => exact ⟨lo, (lo + hi) / 2, rfl, by rw [show ((lo : Int) + (hi : Int)) / 2 = (((lo + hi) / 2 : Nat) : Int) by omega], hl, by omega, by omega, Nat.le_refl _, rfl⟩
    · obtain rfl : hi = lo := by omega
      obtain rfl : i = hi := by omega
      by_cases hn2 : i < ts.length
      · have cl := HC.out i hn2
        by_cases hyx : spd ts i = x
        · have ef : f = true := by rw [← HF.out]; exact decide_eq_true (show i < ts.length ∧ spd ts i = x from ⟨hn2, hyx⟩)
          subst ef
          rw [hyx] at cl
          clear hyx
          go_wp2_with (first | (go_at_call 69; refine (cmpLess_any _ _ _).mono ?_; rintro e w' ⟨rfl, rfl⟩) | (go_at_call 70; refine (slNaN_any _ _).mono ?_; rintro e w' ⟨rfl, rfl⟩))
          refine bodyPost_ret (by simp [results, Try.results62, go_sem, *] <;> rfl) rfl ?_
          exact ⟨by first | rfl | simp [*], rfl⟩
        · have ef : f = false := by rw [← HF.out]; exact decide_eq_false (show ¬ (i < ts.length ∧ spd ts i = x) from fun g => hyx g.2)
          subst ef
          generalize spd ts i = y at cl hyx
          go_wp2_with (first | (go_at_call 69; refine (cmpLess_any _ _ _).mono ?_; rintro e w' ⟨rfl, rfl⟩) | (go_at_call 70; refine (slNaN_any _ _).mono ?_; rintro e w' ⟨rfl, rfl⟩))
          refine bodyPost_ret (by simp [results, Try.results62, go_sem, *] <;> rfl) rfl ?_
          exact ⟨by first | rfl | simp [*], rfl⟩
      · have ef : f = false := by rw [← HF.out]; exact decide_eq_false (show ¬ (i < ts.length ∧ spd ts i = x) from fun g => hn2 g.1)
        subst ef
        go_wp2_with (first | (go_at_call 69; refine (cmpLess_any _ _ _).mono ?_; rintro e w' ⟨rfl, rfl⟩) | (go_at_call 70; refine (slNaN_any _ _).mono ?_; rintro e w' ⟨rfl, rfl⟩))
        refine bodyPost_ret (by simp [results, Try.results62, go_sem, *] <;> rfl) rfl ?_
        exact ⟨by first | rfl | simp [*], rfl⟩
theorem binSearch_at (A : Option Addr) (c : Nat) (ts : List Int) (x : Int) (i : Nat) (iv : Int) (f : Bool) (w : World) (h : IntsAt w A c ts) (h1 : 1 ≤ ts.length) (h2 : ts.length ≤ 40) (hi : BsAt ts x i)
    (e1 : (i : Int) = iv) (e2 : decide (i < ts.length ∧ spd ts i = x) = f) :
    Calls Try.prog 62 #[.slice A ts.length c, .int .i64 x] w fun e w' => e = .returned (.tuple #[.int .i64 iv, .bool f]) ∧ w = w' := by
  subst e1 e2
  exact binSearch_any A c ts x i w h h1 h2 hi
end Go.Proofs.Ytjabldjffpjkeaa
