/- The draw of a narrow interval. -/
import Derived.Test.YtmgmhaikehjddaaDrawKnot
namespace Go.Proofs.Ytmgmhaikehjddaa
set_option linter.unusedSimpArgs false
set_option linter.unusedVariables false
open Go.RowKit

set_option maxRecDepth 100000 in
set_option maxHeartbeats 8000000 in
theorem l02DrawSmall_any (S : Nat) (A : Option Addr) (c : Nat) (xs : List Int) (w : World) (h : SrcAt w S A c xs) :
    Calls Try.prog 196 #[.pointer (some ⟨S, 0, none⟩)] w fun e w' => (∃ a b, e = .returned (ivV a b)) ∧ SrcAt w' S A c xs ∧ ChgB S (S + 1) w w' := by
  have ltS := h.lt
  have SS := Lib.hid h; have CC := Lib.hid (ChgB.refl S (S + 1) w); clear h
  have nS0 : w.heap.size ≠ S := by omega
  have nS1 : S ≠ w.heap.size := by omega
  go_enter Try.func196, Try.ntmps196
  go_upto_region 2 with (go_at_call 174; refine (l01Next_any S A c xs _ _ (SS.out.keepS (by repeat' (first | with_reducible exact Keep.refl _ _ _ | with_reducible refine Keep.setB ?_ ?_ _ | with_reducible refine Keep.alloc ?_ ?_ _ | with_reducible refine Keep.drew ?_ | omega | (simp; done) | (simp; omega))))).mono ?_; rintro e w2 ⟨⟨n2, rfl, n20, n21⟩, s2', ch2⟩; have CC := Lib.hid ((show ChgB S (S + 1) w _ from (by repeat' (first | with_reducible exact CC.out | with_reducible exact ChgB.refl _ _ _ | with_reducible refine ChgB.setB ?_ ?_ _ | with_reducible refine ChgB.alloc ?_ _ | with_reducible refine ChgB.drew ?_ | with_reducible refine ChgB.drewN ?_ _ | omega | (simp; done) | (simp; omega)))).trans ch2.toB); have SS := Lib.hid s2'; obtain ⟨z2, q2, f2, x2, y2⟩ := ckeepB [w.heap.size] (by first | (simp; done) | (simp; omega)) ch2.toB; (try simp only [World.size_alloc, World.size_drew, size_set] at z2); clear s2' ch2; have l2_0 := x2 (w.heap.size) (by simp))
  go_wp2_with (go_at_call 174; refine (l01Next_any S A c xs _ _ (SS.out.keepS (by repeat' (first | with_reducible exact Keep.refl _ _ _ | with_reducible refine Keep.setB ?_ ?_ _ | with_reducible refine Keep.alloc ?_ ?_ _ | with_reducible refine Keep.drew ?_ | omega | (simp; done) | (simp; omega))))).mono ?_; rintro e w3 ⟨⟨n3, rfl, n30, n31⟩, s3', ch3⟩; have CC := Lib.hid ((show ChgB S (S + 1) w _ from (by repeat' (first | with_reducible exact CC.out | with_reducible exact ChgB.refl _ _ _ | with_reducible refine ChgB.setB ?_ ?_ _ | with_reducible refine ChgB.alloc ?_ _ | with_reducible refine ChgB.drew ?_ | with_reducible refine ChgB.drewN ?_ _ | omega | (simp; done) | (simp; omega)))).trans ch3.toB); have SS := Lib.hid s3'; obtain ⟨z3, q3, f3, x3, y3⟩ := ckeepB [w.heap.size] (by first | (simp; done) | (simp; omega)) ch3.toB; (try simp only [World.size_alloc, World.size_drew, size_set] at z3); clear s3' ch3; have l3_0 := x3 (w.heap.size) (by simp))
  all_goals refine bodyPost_ret (by simp [results, Try.results196, go_sem, *] <;> rfl) rfl ?_
  all_goals exact ⟨⟨_, _, rfl⟩, SS.out.keepS (by repeat' (first | with_reducible exact Keep.refl _ _ _ | with_reducible refine Keep.setB ?_ ?_ _ | with_reducible refine Keep.alloc ?_ ?_ _ | with_reducible refine Keep.drew ?_ | omega | (simp; done) | (simp; omega))), (by repeat' (first | with_reducible exact CC.out | with_reducible exact ChgB.refl _ _ _ | with_reducible refine ChgB.setB ?_ ?_ _ | with_reducible refine ChgB.alloc ?_ _ | with_reducible refine ChgB.drew ?_ | with_reducible refine ChgB.drewN ?_ _ | omega | (simp; done) | (simp; omega)))⟩
end Go.Proofs.Ytmgmhaikehjddaa
