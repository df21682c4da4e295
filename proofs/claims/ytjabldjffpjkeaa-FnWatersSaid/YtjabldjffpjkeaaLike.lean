/- Lists, gauges and profiles that are alike: the laws' own comparisons. -/
import Derived.Test.YtjabldjffpjkeaaProf2
namespace Go.Proofs.Ytjabldjffpjkeaa
set_option linter.unusedSimpArgs false
set_option linter.unusedVariables false
open Go.RowKit

set_option maxHeartbeats 400000 in
theorem likeInts_same (A A' : Option Addr) (c c' : Nat) (xs : List Int) (w : World) (hx : IntsAt w A c xs) (hx' : IntsAt w A' c' xs) :
    Calls Try.prog 21 #[.slice A xs.length c, .slice A' xs.length c'] w fun e w' => e = .returned (.bool true) ∧ Below w.heap.size w w' := by
  have hn := Nat.le_trans hx.1 hx.2.1
  have HX := Lib.hid hx; clear hx
  have HX' := Lib.hid hx'; clear hx'
  go_enter Try.func21, Try.ntmps21
  go_wp2
  go_loopw [5] (fun i wr => Below w.heap.size w wr ∧ ∃ k : Nat, k ≤ xs.length ∧ i = .int .i64 k) (fun i _ => xs.length - (intOf i).toNat)
  case atStart => exact ⟨Below.refl _ _, 0, by omega, rfl⟩
  case round =>
    obtain ⟨Br, k, hk, rfl⟩ := hrel
    have tr := bold Br
    by_cases hlt : k < xs.length
    · obtain ⟨b, off, x, rfl, hb, hxk, c0⟩ := HX.out.at_ hlt
      obtain ⟨b', off', x', rfl, hb', hxk', c0'⟩ := HX'.out.at_ hlt
      rw [hxk] at hxk'
      simp only [Option.some.injEq] at hxk'
      subst hxk'
      clear hxk
      have hk0 : (0 : Int) ≤ (k : Int) := Int.natCast_nonneg _
      have hk1 : (k : Int) < (xs.length : Int) := by omega
      go_wp2_with fail
      go_quiet (fail)
      go_wp2
      go_roundw
      case rel => exact ⟨bdrewN Br _, k + 1, by omega, by go_num⟩
      case measure => simp [intOf]; omega
    · go_wp2
      go_ret
      exact ⟨rfl, Br⟩
set_option maxHeartbeats 1000000 in
theorem likeGauges9_same (A1 A2 A3 A4 : Option Addr) (c1 c2 c3 c4 : Nat) (ds ss : List Int) (w : World) (h : ProfAt w A1 c1 A2 c2 ds ss) (h' : ProfAt w A3 c3 A4 c4 ds ss) :
    Calls Try.prog 20 #[profV A1 ds.length c1 A2 ss.length c2, profV A3 ds.length c3 A4 ss.length c4] w fun e w' => e = .returned (.bool true) ∧ Below w.heap.size w w' := by
  have H := Lib.hid h; have H' := Lib.hid h'; clear h h'
  go_enter Try.func20, Try.ntmps20
  go_wp2_with fail
  (refine (likeInts_same _ _ _ _ _ _ (H.out.1.below (B := w.heap.size) (by go_grown) (Nat.le_refl _)) (H'.out.1.below (B := w.heap.size) (by go_grown) (Nat.le_refl _))).mono ?_; rintro e w1 ⟨rfl, hb1⟩; obtain ⟨B1, hz1, q1, s1, t1, x1, y1, z1⟩ := bkeep (w := w) [w.heap.size, w.heap.size + 1] (by first | (simp; done) | (simp; omega)) (by first | (go_grown; done) | exact bdrewN (by go_grown) _) hb1; (try simp at hz1); clear hb1)
  go_wp2_with fail
  (refine (likeInts_same _ _ _ _ _ _ (H.out.2.below B1 (Nat.le_refl _)) (H'.out.2.below B1 (Nat.le_refl _))).mono ?_; rintro e w2 ⟨rfl, hb2⟩; obtain ⟨B2, hz2, q2, s2, t2, x2, y2, z2⟩ := bkeep (w := w) [w.heap.size, w.heap.size + 1] (by first | (simp; done) | (simp; omega)) (by first | (go_grown; done) | exact bdrewN (by go_grown) _) hb2; (try simp at hz2); clear hb2)
  go_wp2
  go_ret
  exact ⟨rfl, B2⟩
end Go.Proofs.Ytjabldjffpjkeaa
