/- The draws of lists of soundings. -/
import Derived.Test.YtbbnnahjghlnoaaDraw21
namespace Go.Proofs.Ytbbnnahjghlnoaa
set_option linter.unusedSimpArgs false
set_option linter.unusedVariables false
open Go.RowKit

set_option maxHeartbeats 2000000 in
theorem drawConflictPairs_any (A : Option Addr) (c : Nat) (xs : List Int) (w : World) (h : BytesAt w A c xs) :
    Calls Try.prog 16 #[.slice A xs.length c] w fun e w' => (∃ A' c' L r, e = .returned (.tuple #[.slice A' (List.length L) c', .int .i64 r]) ∧ SndsAt w' A' c' L ∧ List.length L ≤ 1000) ∧ Below w.heap.size w w' := by
  have H := Lib.hid h; clear h
  go_enter Try.func16, Try.ntmps16
  go_wp2_with fail
  refine (l01From_any A c xs _ H.out).mono ?_
  rintro e w3 ⟨rfl, s3, hb3⟩
  have z3 := hb3.size
  have hS3 := s3.lt
  have SS := Lib.hid s3; have BB := Lib.hid hb3; clear s3 hb3
  go_wp2_with fail
  refine (l21Draw_any w.heap.size A c xs _ (SS.out.keepS (by repeat' (first | with_reducible exact Keep.refl _ _ _ | with_reducible refine Keep.setB ?_ ?_ _ | with_reducible refine Keep.alloc ?_ ?_ _ | with_reducible refine Keep.drew ?_ | omega | (simp; done) | (simp; omega))))).mono ?_
  rintro e w4 ⟨⟨A', c', L, rfl, R4, hL⟩, s4, ch4⟩
  have BB := Lib.hid (show Below w.heap.size w w4 from (show Below w.heap.size w _ from (by first | with_reducible exact BB.out | (have hb_ := BB.out; go_grown; done) | (have hb_ := BB.out; exact bdrewN (by go_grown) _))).trans (ch4.below (by omega) (by omega)))
  have z4 := ch4.size
  (try simp only [World.size_alloc, World.size_drew, size_set] at z4)
  have SS := Lib.hid s4
  go_wp2_with fail
  refine (l21DrawRadius_any w.heap.size A c xs _ (SS.out.keepS (by repeat' (first | with_reducible exact Keep.refl _ _ _ | with_reducible refine Keep.setB ?_ ?_ _ | with_reducible refine Keep.alloc ?_ ?_ _ | with_reducible refine Keep.drew ?_ | omega | (simp; done) | (simp; omega))))).mono ?_
  rintro e w5 ⟨⟨r, rfl⟩, s5, ch5⟩
  have BB := Lib.hid (show Below w.heap.size w w5 from (show Below w.heap.size w _ from (by first | with_reducible exact BB.out | (have hb_ := BB.out; go_grown; done) | (have hb_ := BB.out; exact bdrewN (by go_grown) _))).trans (ch5.below (by omega) (by omega)))
  have z5 := ch5.size
  (try simp only [World.size_alloc, World.size_drew, size_set] at z5)
  have SS := Lib.hid s5
  have R5 := (R4.kept (ChgB.keep_ ch5 (show w.heap.size + 1 ≤ _ by omega) (Nat.le_refl _))).at
  go_wp2
  go_ret2
  exact ⟨⟨A', c', L, r, rfl, R5, hL⟩, (by first | with_reducible exact BB.out | (have hb_ := BB.out; go_grown; done) | (have hb_ := BB.out; exact bdrewN (by go_grown) _))⟩
set_option maxHeartbeats 2000000 in
theorem drawShoalestOf_any (A : Option Addr) (c : Nat) (xs : List Int) (w : World) (h : BytesAt w A c xs) :
    Calls Try.prog 20 #[.slice A xs.length c] w fun e w' => (∃ A' c' L, e = .returned (.slice A' (List.length L) c') ∧ SndsAt w' A' c' L ∧ List.length L ≤ 1000) ∧ Below w.heap.size w w' := by
  have H := Lib.hid h; clear h
  go_enter Try.func20, Try.ntmps20
  go_wp2_with fail
  refine (l01From_any A c xs _ H.out).mono ?_
  rintro e w3 ⟨rfl, s3, hb3⟩
  have z3 := hb3.size
  have hS3 := s3.lt
  have SS := Lib.hid s3; have BB := Lib.hid hb3; clear s3 hb3
  go_wp2_with fail
  refine (l21Draw_any w.heap.size A c xs _ (SS.out.keepS (by repeat' (first | with_reducible exact Keep.refl _ _ _ | with_reducible refine Keep.setB ?_ ?_ _ | with_reducible refine Keep.alloc ?_ ?_ _ | with_reducible refine Keep.drew ?_ | omega | (simp; done) | (simp; omega))))).mono ?_
  rintro e w4 ⟨⟨A', c', L, rfl, R4, hL⟩, s4, ch4⟩
  have BB := Lib.hid (show Below w.heap.size w w4 from (show Below w.heap.size w _ from (by first | with_reducible exact BB.out | (have hb_ := BB.out; go_grown; done) | (have hb_ := BB.out; exact bdrewN (by go_grown) _))).trans (ch4.below (by omega) (by omega)))
  have z4 := ch4.size
  (try simp only [World.size_alloc, World.size_drew, size_set] at z4)
  have SS := Lib.hid s4
  go_wp2
  go_ret
  exact ⟨⟨A', c', L, rfl, R4.at, hL⟩, (by first | with_reducible exact BB.out | (have hb_ := BB.out; go_grown; done) | (have hb_ := BB.out; exact bdrewN (by go_grown) _))⟩
set_option maxRecDepth 20000 in
set_option maxHeartbeats 4000000 in
theorem drawSoundingsNear_any (A : Option Addr) (c : Nat) (xs : List Int) (w : World) (h : BytesAt w A c xs) :
    Calls Try.prog 17 #[.slice A xs.length c] w fun e w' => (∃ A' c' L x y r, e = .returned (.tuple #[.slice A' (List.length L) c', .int .i64 x, .int .i64 y, .int .i64 r]) ∧ SndsAt w' A' c' L ∧ List.length L ≤ 1000) ∧ Below w.heap.size w w' := by
  have H := Lib.hid h; clear h
  go_enter Try.func17, Try.ntmps17
  go_wp2_with fail
  refine (l01From_any A c xs _ H.out).mono ?_
  rintro e w3 ⟨rfl, s3, hb3⟩
  have z3 := hb3.size
  have hS3 := s3.lt
  have SS := Lib.hid s3; have BB := Lib.hid hb3; clear s3 hb3
  go_wp2_with fail
  refine (l01Next_any w.heap.size A c xs _ _ (SS.out.keepS (by repeat' (first | with_reducible exact Keep.refl _ _ _ | with_reducible refine Keep.setB ?_ ?_ _ | with_reducible refine Keep.alloc ?_ ?_ _ | with_reducible refine Keep.drew ?_ | omega | (simp; done) | (simp; omega))))).mono ?_
  rintro e w4 ⟨⟨n4, rfl, n40, n41⟩, s4, ch4⟩
  have BB := Lib.hid (show Below w.heap.size w w4 from (show Below w.heap.size w _ from (by first | with_reducible exact BB.out | (have hb_ := BB.out; go_grown; done) | (have hb_ := BB.out; exact bdrewN (by go_grown) _))).trans (ch4.toB.below (by omega) (by omega)))
  have z4 := ch4.toB.size
  (try simp only [World.size_alloc, World.size_drew, size_set] at z4)
  have SS := Lib.hid s4
  go_wp2_with fail
  refine (l01Next_any w.heap.size A c xs _ _ (SS.out.keepS (by repeat' (first | with_reducible exact Keep.refl _ _ _ | with_reducible refine Keep.setB ?_ ?_ _ | with_reducible refine Keep.alloc ?_ ?_ _ | with_reducible refine Keep.drew ?_ | omega | (simp; done) | (simp; omega))))).mono ?_
  rintro e w5 ⟨⟨n5, rfl, n50, n51⟩, s5, ch5⟩
  have BB := Lib.hid (show Below w.heap.size w w5 from (show Below w.heap.size w _ from (by first | with_reducible exact BB.out | (have hb_ := BB.out; go_grown; done) | (have hb_ := BB.out; exact bdrewN (by go_grown) _))).trans (ch5.toB.below (by omega) (by omega)))
  have z5 := ch5.toB.size
  (try simp only [World.size_alloc, World.size_drew, size_set] at z5)
  have SS := Lib.hid s5
  go_wp2_with fail
  refine (l01Next_any w.heap.size A c xs _ _ (SS.out.keepS (by repeat' (first | with_reducible exact Keep.refl _ _ _ | with_reducible refine Keep.setB ?_ ?_ _ | with_reducible refine Keep.alloc ?_ ?_ _ | with_reducible refine Keep.drew ?_ | omega | (simp; done) | (simp; omega))))).mono ?_
  rintro e w6 ⟨⟨n6, rfl, n60, n61⟩, s6, ch6⟩
  have BB := Lib.hid (show Below w.heap.size w w6 from (show Below w.heap.size w _ from (by first | with_reducible exact BB.out | (have hb_ := BB.out; go_grown; done) | (have hb_ := BB.out; exact bdrewN (by go_grown) _))).trans (ch6.toB.below (by omega) (by omega)))
  have z6 := ch6.toB.size
  (try simp only [World.size_alloc, World.size_drew, size_set] at z6)
  have SS := Lib.hid s6
  by_cases k0 : n6 = 0
  · subst k0
    go_wp2_with fail
    refine (l01Pick_any w.heap.size A c xs _ 0 _ [-1, 10000, 10001] _ (SS.out.keepS (by repeat' (first | with_reducible exact Keep.refl _ _ _ | with_reducible refine Keep.setB ?_ ?_ _ | with_reducible refine Keep.alloc ?_ ?_ _ | with_reducible refine Keep.drew ?_ | omega | (simp; done) | (simp; omega)))) ⟨by simp, by simp, .inr ⟨_, 0, rfl, by first | omega | (simp; done) | (simp; omega), fun i x hx => by rcases i with _ | _ | _ | i <;> simp at hx <;> subst hx <;> simp [*, go_sem]⟩⟩ (by simp) (by first | omega | (simp; omega))).mono ?_
    rintro e w7 ⟨⟨n7, rfl, nm7⟩, s7, ch7⟩
    have BB := Lib.hid (show Below w.heap.size w w7 from (show Below w.heap.size w _ from (by first | with_reducible exact BB.out | (have hb_ := BB.out; go_grown; done) | (have hb_ := BB.out; exact bdrewN (by go_grown) _))).trans (ch7.toB.below (by omega) (by first | omega | (simp; omega))))
    have z7 := ch7.toB.size
    (try simp only [World.size_alloc, World.size_drew, size_set] at z7)
    have SS := Lib.hid s7
    go_wp2_with fail
    refine (l21Draw_any w.heap.size A c xs _ (SS.out.keepS (by repeat' (first | with_reducible exact Keep.refl _ _ _ | with_reducible refine Keep.setB ?_ ?_ _ | with_reducible refine Keep.alloc ?_ ?_ _ | with_reducible refine Keep.drew ?_ | omega | (simp; done) | (simp; omega))))).mono ?_
    rintro e w8 ⟨⟨A', c', L, rfl, R8, hL⟩, s8, ch8⟩
    have BB := Lib.hid (show Below w.heap.size w w8 from (show Below w.heap.size w _ from (by first | with_reducible exact BB.out | (have hb_ := BB.out; go_grown; done) | (have hb_ := BB.out; exact bdrewN (by go_grown) _))).trans (ch8.below (by omega) (by omega)))
    have z8 := ch8.size
    (try simp only [World.size_alloc, World.size_drew, size_set] at z8)
    have SS := Lib.hid s8
    go_wp2_with fail
    refine (l21DrawRadius_any w.heap.size A c xs _ (SS.out.keepS (by repeat' (first | with_reducible exact Keep.refl _ _ _ | with_reducible refine Keep.setB ?_ ?_ _ | with_reducible refine Keep.alloc ?_ ?_ _ | with_reducible refine Keep.drew ?_ | omega | (simp; done) | (simp; omega))))).mono ?_
    rintro e w9 ⟨⟨r, rfl⟩, s9, ch9⟩
    have BB := Lib.hid (show Below w.heap.size w w9 from (show Below w.heap.size w _ from (by first | with_reducible exact BB.out | (have hb_ := BB.out; go_grown; done) | (have hb_ := BB.out; exact bdrewN (by go_grown) _))).trans (ch9.below (by omega) (by omega)))
    have z9 := ch9.size
    (try simp only [World.size_alloc, World.size_drew, size_set] at z9)
    have SS := Lib.hid s9
    have R9 := (R8.kept (ChgB.keep_ ch9 (show w.heap.size + 1 ≤ _ by omega) (Nat.le_refl _))).at
    go_wp2
    refine bodyPost_ret (by simp [results, Try.results17, go_sem, *] <;> rfl) rfl ?_
    exact ⟨⟨A', c', L, _, _, r, rfl, R9, hL⟩, (by first | with_reducible exact BB.out | (have hb_ := BB.out; go_grown; done) | (have hb_ := BB.out; exact bdrewN (by go_grown) _))⟩
  · have hb6 : (n6 == 0) = false := beq_eq_false_iff_ne.2 k0
    go_wp2_with fail
    refine (l21Draw_any w.heap.size A c xs _ (SS.out.keepS (by repeat' (first | with_reducible exact Keep.refl _ _ _ | with_reducible refine Keep.setB ?_ ?_ _ | with_reducible refine Keep.alloc ?_ ?_ _ | with_reducible refine Keep.drew ?_ | omega | (simp; done) | (simp; omega))))).mono ?_
    rintro e w8 ⟨⟨A', c', L, rfl, R8, hL⟩, s8, ch8⟩
    have BB := Lib.hid (show Below w.heap.size w w8 from (show Below w.heap.size w _ from (by first | with_reducible exact BB.out | (have hb_ := BB.out; go_grown; done) | (have hb_ := BB.out; exact bdrewN (by go_grown) _))).trans (ch8.below (by omega) (by omega)))
    have z8 := ch8.size
    (try simp only [World.size_alloc, World.size_drew, size_set] at z8)
    have SS := Lib.hid s8
    go_wp2_with fail
    refine (l21DrawRadius_any w.heap.size A c xs _ (SS.out.keepS (by repeat' (first | with_reducible exact Keep.refl _ _ _ | with_reducible refine Keep.setB ?_ ?_ _ | with_reducible refine Keep.alloc ?_ ?_ _ | with_reducible refine Keep.drew ?_ | omega | (simp; done) | (simp; omega))))).mono ?_
    rintro e w9 ⟨⟨r, rfl⟩, s9, ch9⟩
    have BB := Lib.hid (show Below w.heap.size w w9 from (show Below w.heap.size w _ from (by first | with_reducible exact BB.out | (have hb_ := BB.out; go_grown; done) | (have hb_ := BB.out; exact bdrewN (by go_grown) _))).trans (ch9.below (by omega) (by omega)))
    have z9 := ch9.size
    (try simp only [World.size_alloc, World.size_drew, size_set] at z9)
    have SS := Lib.hid s9
    have R9 := (R8.kept (ChgB.keep_ ch9 (show w.heap.size + 1 ≤ _ by omega) (Nat.le_refl _))).at
    go_wp2
    refine bodyPost_ret (by simp [results, Try.results17, go_sem, *] <;> rfl) rfl ?_
    exact ⟨⟨A', c', L, _, _, r, rfl, R9, hL⟩, (by first | with_reducible exact BB.out | (have hb_ := BB.out; go_grown; done) | (have hb_ := BB.out; exact bdrewN (by go_grown) _))⟩
end Go.Proofs.Ytbbnnahjghlnoaa
