/- The draws of a sounding, and of a sounding, a gauge and a time. -/
import Derived.Test.YtjabldjffpjkeaaDrawLev
import Derived.Test.YtjabldjffpjkeaaSnd0
namespace Go.Proofs.Ytjabldjffpjkeaa
set_option linter.unusedSimpArgs false
set_option linter.unusedVariables false
open Go.RowKit

theorem ResP.keep6 {w w1 W : World} {lo hi lo' hi' c1 c2 : Nat} {A1 A2 : Option Addr} {ds ss : List Int} (h : ResP w lo hi A1 c1 A2 c2 ds ss) (k : Keep lo hi w W) (hc : ChgB lo' hi' W w1) (h1 : hi' ≤ lo) (h2 : hi ≤ W.heap.size) : ResP w1 lo hi A1 c1 A2 c2 ds ss :=
  (h.kept k).kept ⟨hc.size, fun b hb1 hb2 => hc.block b (by omega) (.inr (by omega))⟩
set_option maxHeartbeats 8000000 in
theorem l21DrawOne_any (S : Nat) (A : Option Addr) (c : Nat) (xs : List Int) (w : World) (h : SrcAt w S A c xs) :
    Calls Try.prog 33 #[.pointer (some ⟨S, 0, none⟩)] w fun e w' => (∃ sa sb sd se, e = .returned (sndV sa sb sd se)) ∧ SrcAt w' S A c xs ∧ ChgB S (S + 1) w w' := by
  have ltS := h.lt
  have SS := Lib.hid h; have CC := Lib.hid (ChgB.refl S (S + 1) w); clear h
  have nS0 : w.heap.size ≠ S := by omega
  have nS1 : S ≠ w.heap.size := by omega
  go_enter Try.func33, Try.ntmps33
  go_upto_region 2 with (go_at_call 44; refine (l01Next_any S A c xs _ _ (SS.out.keepS (by repeat' (first | with_reducible exact Keep.refl _ _ _ | with_reducible refine Keep.setB ?_ ?_ _ | with_reducible refine Keep.alloc ?_ ?_ _ | with_reducible refine Keep.drew ?_ | omega | (simp; done) | (simp; omega))))).mono ?_; rintro e w3 ⟨⟨n3, rfl, n30, n31⟩, s3', ch3⟩; clear n30 n31; have CC := Lib.hid ((show ChgB S (S + 1) w _ from (by repeat' (first | with_reducible exact CC.out | with_reducible exact ChgB.refl _ _ _ | with_reducible refine ChgB.setB ?_ ?_ _ | with_reducible refine ChgB.alloc ?_ _ | with_reducible refine ChgB.drew ?_ | with_reducible refine ChgB.drewN ?_ _ | omega | (simp; done) | (simp; omega)))).trans ch3.toB); have SS := Lib.hid s3'; obtain ⟨q3, s3, x3, y3⟩ := ckeepS [w.heap.size] (by first | (simp; done) | (simp; omega)) ch3; have z3 := Nat.le_of_eq ch3.size.symm; (try simp only [World.size_alloc, World.size_drew, size_set] at z3); clear s3' ch3; have lR3 : w.heap.size < w3.heap.size := x3 _ (by simp))
  have nX1 : w.heap.size ≠ w3.heap.size := by omega
  have nX2 : w3.heap.size ≠ w.heap.size := by omega
  have nX3 : S ≠ w3.heap.size := by omega
  refine genS (S := fun w' => w3.heap.size < w'.heap.size ∧ (∃ sa sb sd se, w'.cell? ⟨w3.heap.size, 0, none⟩ = some (.int .i64 sa) ∧ w'.cell? ⟨w3.heap.size, 1, none⟩ = some (.int .i64 sb) ∧ w'.cell? ⟨w3.heap.size, 2, none⟩ = some (.int .i64 sd) ∧ w'.cell? ⟨w3.heap.size, 3, none⟩ = some (.int .i64 se)) ∧ w'.cell? ⟨w.heap.size, 0, none⟩ = some (.int .i64 0) ∧ w'.cell? ⟨w.heap.size, 1, none⟩ = some (.int .i64 0) ∧ w'.cell? ⟨w.heap.size, 2, none⟩ = some (.int .i64 0) ∧ w'.cell? ⟨w.heap.size, 3, none⟩ = some (.int .i64 0) ∧ (∀ o, w'.frozen? ⟨w.heap.size, o, none⟩ = false) ∧ (∀ o, w'.frozen? ⟨w3.heap.size, o, none⟩ = false) ∧ ChgB S (S + 1) w w' ∧ SrcAt w' S A c xs) ⟨by first | omega | (simp; done) | (simp; omega), ⟨_, _, _, _, by simp [*, go_sem] <;> rfl, by simp [*, go_sem] <;> rfl, by simp [*, go_sem] <;> rfl, by simp [*, go_sem] <;> rfl⟩, by simp [*, go_sem], by simp [*, go_sem], by simp [*, go_sem], by simp [*, go_sem], fun o => by simp [*, go_sem], fun o => by simp [*, go_sem], (by repeat' (first | with_reducible exact CC.out | with_reducible exact ChgB.refl _ _ _ | with_reducible refine ChgB.setB ?_ ?_ _ | with_reducible refine ChgB.alloc ?_ _ | with_reducible refine ChgB.drew ?_ | with_reducible refine ChgB.drewN ?_ _ | omega | (simp; done) | (simp; omega))), SS.out.keepS (by repeat' (first | with_reducible exact Keep.refl _ _ _ | with_reducible refine Keep.setB ?_ ?_ _ | with_reducible refine Keep.alloc ?_ ?_ _ | with_reducible refine Keep.drew ?_ | omega | (simp; done) | (simp; omega)))⟩ ?_
  clear q3 s3 x3 y3
  rintro w4 ⟨ltX, ⟨sa, sb, sd, se, x0, x1, x2, x3⟩, r0, r1, r2, r3, fR, fX, cc, ss⟩
  have CC := Lib.hid cc; have SS := Lib.hid ss; clear cc ss
  have ltR : w.heap.size < w4.heap.size := by omega
  go_upto_region 3 with (go_at_call 44; refine (l01Next_any S A c xs _ _ (SS.out.keepS (by repeat' (first | with_reducible exact Keep.refl _ _ _ | with_reducible refine Keep.setB ?_ ?_ _ | with_reducible refine Keep.alloc ?_ ?_ _ | with_reducible refine Keep.drew ?_ | omega | (simp; done) | (simp; omega))))).mono ?_; rintro e w5 ⟨⟨n5, rfl, n50, n51⟩, s5', ch5⟩; clear n50 n51; have CC := Lib.hid ((show ChgB S (S + 1) w _ from (by repeat' (first | with_reducible exact CC.out | with_reducible exact ChgB.refl _ _ _ | with_reducible refine ChgB.setB ?_ ?_ _ | with_reducible refine ChgB.alloc ?_ _ | with_reducible refine ChgB.drew ?_ | with_reducible refine ChgB.drewN ?_ _ | omega | (simp; done) | (simp; omega)))).trans ch5.toB); have SS := Lib.hid s5'; obtain ⟨q5, s5, x5, y5⟩ := ckeepS [w.heap.size, w3.heap.size] (by first | (simp; done) | (simp; omega)) ch5; have z5 := Nat.le_of_eq ch5.size.symm; (try simp only [World.size_alloc, World.size_drew, size_set] at z5); clear s5' ch5; have lR5 : w.heap.size < w5.heap.size := x5 _ (by simp); have lX5 : w3.heap.size < w5.heap.size := x5 _ (by simp))
  by_cases k0 : n5 = 0
  · subst k0
    go_wp2_with (go_at_call 55; refine (l01Pick_any S A c xs _ 0 _ [1000000, 1000001, -2000, -2001] _ (SS.out.keepS (by repeat' (first | with_reducible exact Keep.refl _ _ _ | with_reducible refine Keep.setB ?_ ?_ _ | with_reducible refine Keep.alloc ?_ ?_ _ | with_reducible refine Keep.drew ?_ | omega | (simp; done) | (simp; omega)))) ⟨by simp, by simp, .inr ⟨_, 0, rfl, by first | omega | (simp; done) | (simp; omega), fun i x hx => by rcases i with _ | _ | _ | _ | i <;> simp at hx <;> subst hx <;> simp [*, go_sem]⟩⟩ (by simp) (by first | omega | (simp; omega))).mono ?_; rintro e w6 ⟨⟨n6, rfl, nm6⟩, s6', ch6⟩; clear nm6; have CC := Lib.hid ((show ChgB S (S + 1) w _ from (by repeat' (first | with_reducible exact CC.out | with_reducible exact ChgB.refl _ _ _ | with_reducible refine ChgB.setB ?_ ?_ _ | with_reducible refine ChgB.alloc ?_ _ | with_reducible refine ChgB.drew ?_ | with_reducible refine ChgB.drewN ?_ _ | omega | (simp; done) | (simp; omega)))).trans ch6.toB); have SS := Lib.hid s6'; obtain ⟨q6, s6, x6, y6⟩ := ckeepS [w.heap.size, w3.heap.size] (by first | (simp; done) | (simp; omega)) ch6; have z6 := Nat.le_of_eq ch6.size.symm; (try simp only [World.size_alloc, World.size_drew, size_set] at z6); clear s6' ch6; have lR6 : w.heap.size < w6.heap.size := x6 _ (by simp); have lX6 : w3.heap.size < w6.heap.size := x6 _ (by simp))
    refine bodyPost_ret (by simp [results, Try.results33, go_sem, *] <;> rfl) rfl ?_
    exact ⟨⟨_, _, _, _, rfl⟩, SS.out.keepS (by repeat' (first | with_reducible exact Keep.refl _ _ _ | with_reducible refine Keep.setB ?_ ?_ _ | with_reducible refine Keep.alloc ?_ ?_ _ | with_reducible refine Keep.drew ?_ | omega | (simp; done) | (simp; omega))), (by repeat' (first | with_reducible exact CC.out | with_reducible exact ChgB.refl _ _ _ | with_reducible refine ChgB.setB ?_ ?_ _ | with_reducible refine ChgB.alloc ?_ _ | with_reducible refine ChgB.drew ?_ | with_reducible refine ChgB.drewN ?_ _ | omega | (simp; done) | (simp; omega)))⟩
  · by_cases k1 : n5 = 1
    · subst k1
      go_wp2_with (go_at_call 55; refine (l01Pick_any S A c xs _ 0 _ [-1, 0, 5000, 5001] _ (SS.out.keepS (by repeat' (first | with_reducible exact Keep.refl _ _ _ | with_reducible refine Keep.setB ?_ ?_ _ | with_reducible refine Keep.alloc ?_ ?_ _ | with_reducible refine Keep.drew ?_ | omega | (simp; done) | (simp; omega)))) ⟨by simp, by simp, .inr ⟨_, 0, rfl, by first | omega | (simp; done) | (simp; omega), fun i x hx => by rcases i with _ | _ | _ | _ | i <;> simp at hx <;> subst hx <;> simp [*, go_sem]⟩⟩ (by simp) (by first | omega | (simp; omega))).mono ?_; rintro e w6 ⟨⟨n6, rfl, nm6⟩, s6', ch6⟩; clear nm6; have CC := Lib.hid ((show ChgB S (S + 1) w _ from (by repeat' (first | with_reducible exact CC.out | with_reducible exact ChgB.refl _ _ _ | with_reducible refine ChgB.setB ?_ ?_ _ | with_reducible refine ChgB.alloc ?_ _ | with_reducible refine ChgB.drew ?_ | with_reducible refine ChgB.drewN ?_ _ | omega | (simp; done) | (simp; omega)))).trans ch6.toB); have SS := Lib.hid s6'; obtain ⟨q6, s6, x6, y6⟩ := ckeepS [w.heap.size, w3.heap.size] (by first | (simp; done) | (simp; omega)) ch6; have z6 := Nat.le_of_eq ch6.size.symm; (try simp only [World.size_alloc, World.size_drew, size_set] at z6); clear s6' ch6; have lR6 : w.heap.size < w6.heap.size := x6 _ (by simp); have lX6 : w3.heap.size < w6.heap.size := x6 _ (by simp))
      refine bodyPost_ret (by simp [results, Try.results33, go_sem, *] <;> rfl) rfl ?_
      exact ⟨⟨_, _, _, _, rfl⟩, SS.out.keepS (by repeat' (first | with_reducible exact Keep.refl _ _ _ | with_reducible refine Keep.setB ?_ ?_ _ | with_reducible refine Keep.alloc ?_ ?_ _ | with_reducible refine Keep.drew ?_ | omega | (simp; done) | (simp; omega))), (by repeat' (first | with_reducible exact CC.out | with_reducible exact ChgB.refl _ _ _ | with_reducible refine ChgB.setB ?_ ?_ _ | with_reducible refine ChgB.alloc ?_ _ | with_reducible refine ChgB.drew ?_ | with_reducible refine ChgB.drewN ?_ _ | omega | (simp; done) | (simp; omega)))⟩
    · by_cases k2 : n5 = 2
      · subst k2
        go_wp2_with (go_at_call 55; refine (l01Pick_any S A c xs _ 0 _ [-1, 10000, 10001] _ (SS.out.keepS (by repeat' (first | with_reducible exact Keep.refl _ _ _ | with_reducible refine Keep.setB ?_ ?_ _ | with_reducible refine Keep.alloc ?_ ?_ _ | with_reducible refine Keep.drew ?_ | omega | (simp; done) | (simp; omega)))) ⟨by simp, by simp, .inr ⟨_, 0, rfl, by first | omega | (simp; done) | (simp; omega), fun i x hx => by rcases i with _ | _ | _ | _ | i <;> simp at hx <;> subst hx <;> simp [*, go_sem]⟩⟩ (by simp) (by first | omega | (simp; omega))).mono ?_; rintro e w6 ⟨⟨n6, rfl, nm6⟩, s6', ch6⟩; clear nm6; have CC := Lib.hid ((show ChgB S (S + 1) w _ from (by repeat' (first | with_reducible exact CC.out | with_reducible exact ChgB.refl _ _ _ | with_reducible refine ChgB.setB ?_ ?_ _ | with_reducible refine ChgB.alloc ?_ _ | with_reducible refine ChgB.drew ?_ | with_reducible refine ChgB.drewN ?_ _ | omega | (simp; done) | (simp; omega)))).trans ch6.toB); have SS := Lib.hid s6'; obtain ⟨q6, s6, x6, y6⟩ := ckeepS [w.heap.size, w3.heap.size] (by first | (simp; done) | (simp; omega)) ch6; have z6 := Nat.le_of_eq ch6.size.symm; (try simp only [World.size_alloc, World.size_drew, size_set] at z6); clear s6' ch6; have lR6 : w.heap.size < w6.heap.size := x6 _ (by simp); have lX6 : w3.heap.size < w6.heap.size := x6 _ (by simp))
        refine bodyPost_ret (by simp [results, Try.results33, go_sem, *] <;> rfl) rfl ?_
        exact ⟨⟨_, _, _, _, rfl⟩, SS.out.keepS (by repeat' (first | with_reducible exact Keep.refl _ _ _ | with_reducible refine Keep.setB ?_ ?_ _ | with_reducible refine Keep.alloc ?_ ?_ _ | with_reducible refine Keep.drew ?_ | omega | (simp; done) | (simp; omega))), (by repeat' (first | with_reducible exact CC.out | with_reducible exact ChgB.refl _ _ _ | with_reducible refine ChgB.setB ?_ ?_ _ | with_reducible refine ChgB.alloc ?_ _ | with_reducible refine ChgB.drew ?_ | with_reducible refine ChgB.drewN ?_ _ | omega | (simp; done) | (simp; omega)))⟩
      · go_wp2_with fail
        refine bodyPost_ret (by simp [results, Try.results33, go_sem, *] <;> rfl) rfl ?_
        exact ⟨⟨_, _, _, _, rfl⟩, SS.out.keepS (by repeat' (first | with_reducible exact Keep.refl _ _ _ | with_reducible refine Keep.setB ?_ ?_ _ | with_reducible refine Keep.alloc ?_ ?_ _ | with_reducible refine Keep.drew ?_ | omega | (simp; done) | (simp; omega))), (by repeat' (first | with_reducible exact CC.out | with_reducible exact ChgB.refl _ _ _ | with_reducible refine ChgB.setB ?_ ?_ _ | with_reducible refine ChgB.alloc ?_ _ | with_reducible refine ChgB.drew ?_ | with_reducible refine ChgB.drewN ?_ _ | omega | (simp; done) | (simp; omega)))⟩
set_option maxHeartbeats 2000000 in
theorem drawDepthBounds_any (A : Option Addr) (c : Nat) (xs : List Int) (w : World) (h : BytesAt w A c xs) :
    Calls Try.prog 10 #[.slice A xs.length c] w fun e w' => (∃ sa sb sd se, e = .returned (sndV sa sb sd se)) ∧ Below w.heap.size w w' := by
  have H := Lib.hid h; clear h
  go_enter Try.func10, Try.ntmps10
  go_wp2_with fail
  refine (l01From_any A c xs _ (H.out.below (B := w.heap.size) (by go_grown) (Nat.le_refl _))).mono ?_
  rintro e w3 ⟨rfl, s3, hb3⟩
  obtain ⟨T3, z3, q3, f3, x3, y3⟩ := lkeep (w := w) [w.heap.size] (by first | (simp; done) | (simp; omega)) (by go_grown) hb3
  simp only [World.size_alloc] at s3
  have hS3 := s3.lt
  have SS := Lib.hid s3; have BB := Lib.hid T3; clear s3 T3 hb3
  go_wp2_with fail
  refine (l21DrawOne_any (w.heap.size + 1) A c xs _ SS.out).mono ?_
  rintro e w4 ⟨⟨sa, sb, sd, se, rfl⟩, s4, ch4⟩
  have BB := Lib.hid (BB.out.trans (ch4.below (by omega) (by omega)))
  obtain ⟨z4, q4, f4, x4, y4⟩ := ckeepB [w.heap.size] (by first | (simp; done) | (simp; omega)) ch4
  clear s4 ch4
  go_wp2
  refine bodyPost_ret (by simp [results, Try.results10, go_sem, *] <;> rfl) rfl ?_
  exact ⟨⟨_, _, _, _, rfl⟩, by have hb_ := BB.out; go_grown⟩
set_option maxHeartbeats 4000000 in
theorem drawReduceSounding_any (A : Option Addr) (c : Nat) (xs : List Int) (w : World) (h : BytesAt w A c xs) :
    Calls Try.prog 7 #[.slice A xs.length c] w fun e w' => (∃ sa sb sd se A1 c1 A2 c2 ts ls t, e = .returned (.tuple #[sndV sa sb sd se, profV A1 (List.length ts) c1 A2 (List.length ls) c2, .int .i64 t]) ∧ ResP w' w.heap.size w'.heap.size A1 c1 A2 c2 ts ls) ∧ Below w.heap.size w w' := by
  have H := Lib.hid h; clear h
  go_enter Try.func7, Try.ntmps7
  go_wp2_with fail
  refine (l01From_any A c xs _ (H.out.below (B := w.heap.size) (by go_grown) (Nat.le_refl _))).mono ?_
  rintro e w3 ⟨rfl, s3, hb3⟩
  obtain ⟨T3, z3, q3, f3, x3, y3⟩ := lkeep (w := w) [w.heap.size, w.heap.size + 1] (by first | (simp; done) | (simp; omega)) (by go_grown) hb3
  simp only [World.size_alloc] at s3
  have hS3 := s3.lt
  have SS := Lib.hid s3; have BB := Lib.hid T3; clear s3 T3 hb3
  go_wp2_with fail
  refine (drawLevelAt_any A c xs _ (H.out.below BB.out (Nat.le_refl _))).mono ?_
  rintro e w4 ⟨⟨A1, c1, A2, c2, ts, ls, t, rfl, rp, -⟩, hb4⟩
  obtain ⟨T4, z4, q4, f4, x4, y4⟩ := lkeep (w := w) [w.heap.size, w.heap.size + 1] (by intro b hb; exact x3 b hb) BB.out hb4
  have RP := Lib.hid rp; have SS := Lib.hid (SS.out.below hb4 hS3); have BB := Lib.hid T4; clear rp T4 hb4
  have hS4 := SS.out.lt
  have ne1 : w.heap.size ≠ w4.heap.size := by omega
  have ne2 : w4.heap.size ≠ w.heap.size := by omega
  have ne3 : w.heap.size + 1 ≠ w4.heap.size := by omega
  have ne4 : w4.heap.size ≠ w.heap.size + 1 := by omega
  go_upto_region 3 with fail
  refine genS (S := fun w' => Below w.heap.size w w' ∧ w.heap.size + 1 < w'.heap.size ∧ w4.heap.size < w'.heap.size ∧ w'.cell? ⟨w.heap.size, 0, none⟩ = some (.int .i64 0) ∧ w'.cell? ⟨w.heap.size, 1, none⟩ = some (.int .i64 0) ∧ w'.cell? ⟨w.heap.size, 2, none⟩ = some (.int .i64 0) ∧ w'.cell? ⟨w.heap.size, 3, none⟩ = some (.int .i64 0) ∧ w'.cell? ⟨w.heap.size + 1, 0, none⟩ = some (.slice none 0 0) ∧ w'.cell? ⟨w.heap.size + 1, 1, none⟩ = some (.slice none 0 0) ∧ w'.cell? ⟨w4.heap.size, 0, none⟩ = some (.slice A1 (List.length ts) c1) ∧ w'.cell? ⟨w4.heap.size, 1, none⟩ = some (.slice A2 (List.length ls) c2) ∧ (∀ o, w'.frozen? ⟨w.heap.size, o, none⟩ = false) ∧ (∀ o, w'.frozen? ⟨w.heap.size + 1, o, none⟩ = false) ∧ SrcAt w' (w.heap.size + 1 + 1) A c xs ∧ ResP w' w3.heap.size w4.heap.size A1 c1 A2 c2 ts ls) ⟨(by first | exact BB.out | (have hb_ := BB.out; go_grown; done) | (have hb_ := BB.out; exact bdrewN (by go_grown) _)), by first | omega | (simp; done) | (simp; omega), by first | omega | (simp; done) | (simp; omega), by simp [*, go_sem], by simp [*, go_sem], by simp [*, go_sem], by simp [*, go_sem], by simp [*, go_sem], by simp [*, go_sem], by simp [*, go_sem], by simp [*, go_sem], fun o => by simp [*, go_sem], fun o => by simp [*, go_sem], SS.out.keepS (by repeat' (first | with_reducible exact Keep.refl _ _ _ | with_reducible refine Keep.setB ?_ ?_ _ | with_reducible refine Keep.alloc ?_ ?_ _ | with_reducible refine Keep.drew ?_ | omega | (simp; done) | (simp; omega))), RP.out.kept (by repeat' (first | with_reducible exact Keep.refl _ _ _ | with_reducible refine Keep.setB ?_ ?_ _ | with_reducible refine Keep.alloc ?_ ?_ _ | with_reducible refine Keep.drew ?_ | omega | (simp; done) | (simp; omega)))⟩ ?_
  clear q3 f3 x3 y3 q4 f4 x4 y4
  rintro w5 ⟨bb, ltR, ltG, rr0, rr1, rr2, rr3, rr4, rr5, rr6, rr7, fR, fT, ss, rp⟩
  have BB := Lib.hid bb; have SS := Lib.hid ss; have RP := Lib.hid rp; clear bb ss rp
  have lt0 : w.heap.size < w5.heap.size := by omega
  go_region_law (go_simp; go_at_call 33; refine (l21DrawOne_any (w.heap.size + 1 + 1) A c xs _ (SS.out.keepS (by repeat' (first | with_reducible exact Keep.refl _ _ _ | with_reducible refine Keep.setB ?_ ?_ _ | with_reducible refine Keep.alloc ?_ ?_ _ | with_reducible refine Keep.drew ?_ | omega | (simp; done) | (simp; omega))))).mono ?_; rintro e w6 ⟨⟨sa, sb, sd, se, rfl⟩, s6, ch6⟩; have BB := Lib.hid (Below.trans (show Below w.heap.size w _ from (by first | exact BB.out | (have hb_ := BB.out; go_grown; done) | (have hb_ := BB.out; exact bdrewN (by go_grown) _))) (ch6.below (by omega) (by first | omega | (simp; omega)))); have RP := Lib.hid (RP.out.keep6 (by repeat' (first | with_reducible exact Keep.refl _ _ _ | with_reducible refine Keep.setB ?_ ?_ _ | with_reducible refine Keep.alloc ?_ ?_ _ | with_reducible refine Keep.drew ?_ | omega | (simp; done) | (simp; omega))) ch6 (by omega) (by first | omega | (simp; omega))); obtain ⟨z6, q6, f6, x6, y6⟩ := ckeepB [w.heap.size, w.heap.size + 1, w4.heap.size] (by first | (simp; done) | (simp; omega)) ch6; (try simp only [World.size_alloc, World.size_drew, size_set] at z6); clear s6 ch6; have l60 : w.heap.size < w6.heap.size := x6 _ (by simp); have l61 : w.heap.size + 1 < w6.heap.size := x6 _ (by simp); (try go_wp2_with fail))
  all_goals go_wp2
  all_goals refine bodyPost_ret (by simp [results, Try.results7, go_sem, *] <;> rfl) rfl ?_
  all_goals refine ⟨⟨sa, sb, sd, se, A1, c1, A2, c2, ts, ls, t, rfl, ?_⟩, ?_⟩
  all_goals (try simp only [size_set, World.size_drew])
  all_goals have l62 : w4.heap.size < w6.heap.size := x6 _ (by simp)
  all_goals clear q6 f6 x6 y6 z3 rr0 rr1 rr2 rr3 rr4 rr5 rr6 rr7 fR fT
  all_goals first
    | (have hb := BB.out; go_grown; done)
    | (refine ResP.mono (lo := w3.heap.size) (hi := w4.heap.size) ?_ (by omega) (by omega); refine RP.out.kept ?_; exact (by repeat' (first | with_reducible exact Keep.refl _ _ _ | with_reducible refine Keep.setB ?_ ?_ _ | omega)))
end Go.Proofs.Ytjabldjffpjkeaa
