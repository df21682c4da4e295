/- Lists of numbers: what reads as a list; the loops that only read. -/
import Derived.Test.YtjabldjffpjkeaaW1
namespace Go.Proofs.Ytjabldjffpjkeaa
set_option linter.unusedSimpArgs false
set_option linter.unusedVariables false
open Go.RowKit

/-- the slice with address A and capacity c reads as the list xs -/
def IntsAt (w : World) (A : Option Addr) (c : Nat) (xs : List Int) : Prop :=
  xs.length ≤ c ∧ c ≤ 9223372036854775807 ∧ (xs = [] ∨ ∃ b off, A = some ⟨b, off, none⟩ ∧ b < w.heap.size ∧ ∀ i x, xs[i]? = some x → w.cell? ⟨b, off + i, none⟩ = some (.int .i64 x))

theorem IntsAt.at_ {w : World} {A : Option Addr} {c k : Nat} {xs : List Int} (h : IntsAt w A c xs) (hk : k < xs.length) :
    ∃ b off x, A = some ⟨b, off, none⟩ ∧ b < w.heap.size ∧ xs[k]? = some x ∧ w.cell? ⟨b, off + k, none⟩ = some (.int .i64 x) := by
  rcases h.2.2 with rfl | ⟨b, off, rfl, hb, hc⟩
  · exact absurd hk (by simp)
  · exact ⟨b, off, xs[k], rfl, hb, List.getElem?_eq_getElem hk, hc _ _ (List.getElem?_eq_getElem hk)⟩

theorem IntsAt.below {w w1 : World} {B : Nat} {A : Option Addr} {c : Nat} {xs : List Int} (h : IntsAt w A c xs) (hb : Below B w w1) (hB : w.heap.size ≤ B) : IntsAt w1 A c xs := by
  refine ⟨h.1, h.2.1, ?_⟩
  rcases h.2.2 with rfl | ⟨b, off, rfl, hb1, hc⟩
  · exact .inl rfl
  · have := hb.size
    exact .inr ⟨b, off, rfl, by omega, fun i x hx => (hb.cell (p := ⟨b, off + i, none⟩) (by show b < B; omega)).trans (hc i x hx)⟩

theorem len_of {xs : List Int} {k : Nat} {x : Int} (h : xs[k]? = some x) : k < xs.length := (List.getElem?_eq_some_iff.1 h).1

theorem all_stop {p : Int → Bool} {xs : List Int} {k : Nat} {x : Int} (h : xs[k]? = some x) (hp : p x = false) : xs.all p = false := by
  rw [List.all_eq_false]; exact ⟨x, List.mem_of_getElem? h, by simp [hp]⟩
theorem all_step {p : Int → Bool} {xs : List Int} {k : Nat} {x : Int} (h : xs[k]? = some x) (ha : (xs.take k).all p = true) (hp : p x = true) : (xs.take (k + 1)).all p = true := by
  rw [List.take_add_one, h]; simp_all
theorem all_done {p : Int → Bool} {xs : List Int} {k : Nat} (ha : (xs.take k).all p = true) (hk : ¬ k < xs.length) : xs.all p = true := by
  rwa [List.take_of_length_le (by omega)] at ha

set_option maxHeartbeats 400000 in
theorem areWithin_any (A : Option Addr) (c : Nat) (xs : List Int) (lo hi : Int) (w : World) (hx : IntsAt w A c xs) :
    Calls Try.prog 54 #[.slice A xs.length c, .int .i64 lo, .int .i64 hi] w fun e w' => e = .returned (.bool (xs.all (inB · lo hi))) ∧ w = w' := by
  have hn := Nat.le_trans hx.1 hx.2.1
  have HX := Lib.hid hx; clear hx
  go_enter Try.func54, Try.ntmps54
  go_wp2
  go_loop [11] (fun i => ∃ k : Nat, k ≤ xs.length ∧ i = .int .i64 k ∧ (xs.take k).all (inB · lo hi) = true) (fun i => xs.length - (intOf i).toNat)
  case atStart => exact ⟨0, by omega, rfl, by simp⟩
  case round =>
    obtain ⟨k, hk, rfl, ha⟩ := hrel
    have HA := Lib.hid ha; clear ha
    by_cases hlt : k < xs.length
    · obtain ⟨b, off, x, rfl, hb, hxk, hc⟩ := HX.out.at_ hlt
      have HK := Lib.hid hxk; clear hxk
      by_cases hin : inB x lo hi = true
      · go_wp2_with (go_at_call 51; refine (within_any _ _ _ _).mono ?_; rintro e w' ⟨rfl, rfl⟩)
        go_round
        case rel => exact ⟨k + 1, by omega, by go_num, all_step HK.out HA.out hin⟩
        case measure => simp [intOf]; omega
      · go_wp2_with (go_at_call 51; refine (within_any _ _ _ _).mono ?_; rintro e w' ⟨rfl, rfl⟩)
        go_ret
        exact ⟨ret_bool (all_stop HK.out (by simpa using hin)).symm, rfl⟩
    · go_wp2
      go_ret
      exact ⟨ret_bool (all_done HA.out hlt).symm, rfl⟩

end Go.Proofs.Ytjabldjffpjkeaa
