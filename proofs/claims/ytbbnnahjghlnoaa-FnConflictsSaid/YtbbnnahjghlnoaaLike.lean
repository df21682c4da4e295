/- Lists, gauges and profiles that are alike: the laws' own comparisons. -/
import Derived.Test.YtbbnnahjghlnoaaProf2
namespace Go.Proofs.Ytbbnnahjghlnoaa
set_option linter.unusedSimpArgs false
set_option linter.unusedVariables false
open Go.RowKit

set_option maxHeartbeats 400000 in
theorem likeInts_same (A A' : Option Addr) (c c' : Nat) (xs : List Int) (w : World) (hx : IntsAt w A c xs) (hx' : IntsAt w A' c' xs) :
    Calls Try.prog 24 #[.slice A xs.length c, .slice A' xs.length c'] w fun e w' => e = .returned (.bool true) ∧ Below w.heap.size w w' := by
  have hn := Nat.le_trans hx.1 hx.2.1
  have HX := Lib.hid hx; clear hx
  have HX' := Lib.hid hx'; clear hx'
  go_enter Try.func24, Try.ntmps24
  go_wp2
  go_loopw [5] (fun i wr => Below w.heap.size w wr ∧ ∃ k : Nat, k ≤ xs.length ∧ i = .int .i64 k) (fun i _ => xs.length - (intOf i).toNat)
  case atStart => exact ⟨Below.refl _ _, 0, by omega, rfl⟩
  case round =>
    obtain ⟨Br, k, hk, rfl⟩ := hrel
    have tr := bold Br
    by_cases hlt : k < xs.length
    · obtain ⟨b, off, x, rfl, hb, hxk, c0⟩ := HX.out.at_ hlt
      obtain ⟨b', off', x', rfl, hb', hxk', c0'⟩ := HX'.out.at_ hlt
      rw [hxk] at hxk'
      simp only [Option.some.injEq] at hxk'
      subst hxk'
      clear hxk
      have hk0 : (0 : Int) ≤ (k : Int) := Int.natCast_nonneg _
      have hk1 : (k : Int) < (xs.length : Int) := by omega
      go_wp2_with fail
      go_quiet (fail)
      go_wp2
      go_roundw
      case rel => exact ⟨bdrewN Br _, k + 1, by omega, by go_num⟩
      case measure => simp [intOf]; omega
    · go_wp2
      go_ret
      exact ⟨rfl, Br⟩
end Go.Proofs.Ytbbnnahjghlnoaa
