/- The draws of a gauge, and of two gauges. -/
import Derived.Test.YtjabldjffpjkeaaDrawLev
import Derived.Test.YtjabldjffpjkeaaShift2
import Derived.Test.YtjabldjffpjkeaaCut
namespace Go.Proofs.Ytjabldjffpjkeaa
set_option linter.unusedSimpArgs false
set_option linter.unusedVariables false
open Go.RowKit

theorem layJ_ {T P : Prop} (h : T) (k : T → P) : P := k h
theorem ResP.keepC {w w1 W : World} {lo hi S c1 c2 : Nat} {A1 A2 : Option Addr} {ds ss : List Int} (h : ResP w lo hi A1 c1 A2 c2 ds ss) (k : Keep lo hi w W) (hc : Chg S (S + 1) W w1) (h1 : S + 1 ≤ lo) (h2 : hi ≤ W.heap.size) : ResP w1 lo hi A1 c1 A2 c2 ds ss :=
  (h.kept k).kept ⟨by rw [hc.size]; exact Nat.le_refl _, fun b hb1 hb2 => hc.block b (.inr (by omega))⟩
set_option maxHeartbeats 2000000 in
theorem drawHighWaters_any (A : Option Addr) (c : Nat) (xs : List Int) (w : World) (h : BytesAt w A c xs) :
    Calls Try.prog 17 #[.slice A xs.length c] w fun e w' => (∃ A1 c1 A2 c2 ts ls, e = .returned (profV A1 (List.length ts) c1 A2 (List.length ls) c2) ∧ ProfAt w' A1 c1 A2 c2 ts ls) ∧ Below w.heap.size w w' := by
  have H := Lib.hid h; clear h
  go_enter Try.func17, Try.ntmps17
  go_wp2_with fail
  refine (l01From_any A c xs _ (H.out.below (B := w.heap.size) (by go_grown) (Nat.le_refl _))).mono ?_
  rintro e w3 ⟨rfl, s3, hb3⟩
  obtain ⟨T3, z3, q3, f3, x3, y3⟩ := lkeep (w := w) [w.heap.size] (by first | (simp; done) | (simp; omega)) (by go_grown) hb3
  simp only [World.size_alloc] at s3
  have hS3 := s3.lt
  have SS := Lib.hid s3; have BB := Lib.hid T3; clear s3 T3 hb3
  go_wp2_with fail
  refine (l20Draw_any (w.heap.size + 1) A c xs _ SS.out).mono ?_
  rintro e w4 ⟨⟨A1, c1, A2, c2, ts, ls, rfl, rp, -⟩, s4, ch4⟩
  have BB := Lib.hid (BB.out.trans (ch4.below (by omega) (by omega)))
  obtain ⟨z4, q4, f4, x4, y4⟩ := ckeepB [w.heap.size] (by first | (simp; done) | (simp; omega)) ch4
  have RP := Lib.hid rp; clear s4 ch4 rp
  go_wp2
  refine bodyPost_ret (by simp [results, Try.results17, go_sem, *] <;> rfl) rfl ?_
  exact ⟨⟨_, _, _, _, ts, ls, rfl, (RP.out.kept (by repeat' (first | with_reducible exact Keep.refl _ _ _ | with_reducible refine Keep.setB ?_ ?_ _ | with_reducible refine Keep.alloc ?_ ?_ _ | with_reducible refine Keep.drew ?_ | omega | (simp; done) | (simp; omega)))).at⟩, (by first | exact BB.out | (have hb_ := BB.out; go_grown; done) | (have hb_ := BB.out; exact bdrewN (by go_grown) _))⟩
set_option maxRecDepth 100000 in
set_option maxHeartbeats 8000000 in
theorem drawJoin_any (A : Option Addr) (c : Nat) (xs : List Int) (w : World) (h : BytesAt w A c xs) :
    Calls Try.prog 14 #[.slice A xs.length c] w fun e w' => (∃ A1 c1 A2 c2 ts ls A3 c3 A4 c4 us ms, e = .returned (.tuple #[profV A1 (List.length ts) c1 A2 (List.length ls) c2, profV A3 (List.length us) c3 A4 (List.length ms) c4]) ∧ ProfAt w' A1 c1 A2 c2 ts ls ∧ ProfAt w' A3 c3 A4 c4 us ms) ∧ Below w.heap.size w w' := by
  have H := Lib.hid h; clear h
  go_enter Try.func14, Try.ntmps14
  go_wp2_with fail
  refine (l01From_any A c xs _ (H.out.below (B := w.heap.size) (by go_grown) (Nat.le_refl _))).mono ?_
  rintro e w3 ⟨rfl, s3, hb3⟩
  obtain ⟨T3, z3, q3, f3, x3, y3⟩ := lkeep (w := w) [w.heap.size, w.heap.size + 1] (by first | (simp; done) | (simp; omega)) (by go_grown) hb3
  simp only [World.size_alloc] at s3
  have hS3 := s3.lt
  have SS := Lib.hid s3; have BB := Lib.hid T3; clear s3 T3 hb3
  go_wp2_with fail
  refine (l20Draw_any (w.heap.size + 1 + 1) A c xs _ SS.out).mono ?_
  rintro e w4 ⟨⟨A1, c1, A2, c2, ts, ls, rfl, rp, h1, h9, -⟩, s4, ch4⟩
  have BB := Lib.hid (BB.out.trans (ch4.below (by omega) (by omega)))
  obtain ⟨z4, q4, f4, x4, y4⟩ := ckeepB [w.heap.size, w.heap.size + 1] (by first | (simp; done) | (simp; omega)) ch4
  have RP := Lib.hid rp; have SS := Lib.hid s4; clear s4 ch4 rp
  go_wp2_with fail
  refine (l20Draw_any (w.heap.size + 1 + 1) A c xs _ SS.out).mono ?_
  rintro e w5 ⟨⟨A3, c3, A4, c4, us, ms, rfl, rq, -⟩, s5, ch5⟩
  have BB := Lib.hid (BB.out.trans (ch5.below (by omega) (by omega)))
  have RP := Lib.hid (RP.out.chgB ch5 (by omega))
  obtain ⟨z5, q5, f5, x5, y5⟩ := ckeepB [w.heap.size, w.heap.size + 1] (by first | (simp; done) | (simp; omega)) ch5
  have RQ := Lib.hid rq; have SS := Lib.hid s5; clear s5 ch5 rq
  have lx0 : w.heap.size < w5.heap.size := x5 _ (by simp)
  have lx1 : w.heap.size + 1 < w5.heap.size := x5 _ (by simp)
  have lS := SS.out.lt
  have hS : w.heap.size + 1 + 1 < w3.heap.size := hS3
  go_wp2_with fail
  refine (l01Next_any (w.heap.size + 1 + 1) A c xs _ _ (SS.out.keepS (by repeat' (first | with_reducible exact Keep.refl _ _ _ | with_reducible refine Keep.setB ?_ ?_ _ | with_reducible refine Keep.alloc ?_ ?_ _ | with_reducible refine Keep.drew ?_ | omega | (simp; done) | (simp; omega))))).mono ?_
  rintro e w6 ⟨⟨n6, rfl, n60, n61⟩, s6, ch6⟩
  have RP := Lib.hid (RP.out.keepC (by repeat' (first | with_reducible exact Keep.refl _ _ _ | with_reducible refine Keep.setB ?_ ?_ _ | with_reducible refine Keep.alloc ?_ ?_ _ | with_reducible refine Keep.drew ?_ | omega | (simp; done) | (simp; omega))) ch6 (by omega) (by first | omega | (simp; omega)))
  have RQ := Lib.hid (RQ.out.keepC (by repeat' (first | with_reducible exact Keep.refl _ _ _ | with_reducible refine Keep.setB ?_ ?_ _ | with_reducible refine Keep.alloc ?_ ?_ _ | with_reducible refine Keep.drew ?_ | omega | (simp; done) | (simp; omega))) ch6 (by omega) (by first | omega | (simp; omega)))
  have BB := Lib.hid ((show Below w.heap.size w _ from (by first | exact BB.out | (have hb_ := BB.out; go_grown; done) | (have hb_ := BB.out; exact bdrewN (by go_grown) _))).trans (ch6.toB.below (by omega) (by first | omega | (simp; omega))))
  obtain ⟨q6, f6, x6, y6⟩ := ckeepS [w.heap.size, w.heap.size + 1, w5.heap.size, w5.heap.size + 1] (by first | (simp; done) | (simp; omega)) ch6
  clear s6 ch6 n60 n61
  have lg1 : w5.heap.size + 1 < w6.heap.size := x6 _ (by simp)
  obtain ⟨naa1, nab1, naa2, nab2, naa3, nab3, naa4, nab4⟩ : w.heap.size ≠ w5.heap.size ∧ w5.heap.size ≠ w.heap.size ∧ w.heap.size ≠ w5.heap.size + 1 ∧ w5.heap.size + 1 ≠ w.heap.size ∧ w.heap.size + 1 ≠ w5.heap.size ∧ w5.heap.size ≠ w.heap.size + 1 ∧ w.heap.size + 1 ≠ w5.heap.size + 1 ∧ w5.heap.size + 1 ≠ w.heap.size + 1 := by
    refine ⟨?_, ?_, ?_, ?_, ?_, ?_, ?_, ?_⟩ <;> omega
  by_cases hn6 : 0 < n6
  · go_wp2_with fail
    refine genS (S := fun w' => Below w.heap.size w w' ∧ w5.heap.size + 1 < w'.heap.size ∧ w'.cell? ⟨w.heap.size, 0, none⟩ = some (.slice none 0 0) ∧ w'.cell? ⟨w.heap.size, 1, none⟩ = some (.slice none 0 0) ∧ w'.cell? ⟨w.heap.size + 1, 0, none⟩ = some (.slice none 0 0) ∧ w'.cell? ⟨w.heap.size + 1, 1, none⟩ = some (.slice none 0 0) ∧ w'.cell? ⟨w5.heap.size, 0, none⟩ = some (.slice A1 (List.length ts) c1) ∧ w'.cell? ⟨w5.heap.size, 1, none⟩ = some (.slice A2 (List.length ls) c2) ∧ w'.cell? ⟨w5.heap.size + 1, 0, none⟩ = some (.slice A3 (List.length us) c3) ∧ w'.cell? ⟨w5.heap.size + 1, 1, none⟩ = some (.slice A4 (List.length ms) c4) ∧ (∀ o, w'.frozen? ⟨w.heap.size, o, none⟩ = false) ∧ (∀ o, w'.frozen? ⟨w.heap.size + 1, o, none⟩ = false) ∧ ResP w' w3.heap.size w4.heap.size A1 c1 A2 c2 ts ls ∧ ResP w' w4.heap.size w5.heap.size A3 c3 A4 c4 us ms) ⟨BB.out, lg1, by simp [*, go_sem], by simp [*, go_sem], by simp [*, go_sem], by simp [*, go_sem], by simp [*, go_sem], by simp [*, go_sem], by simp [*, go_sem], by simp [*, go_sem], fun o => by simp [*, go_sem], fun o => by simp [*, go_sem], RP.out, RQ.out⟩ ?_
    clear q6 f6 x6 y6 q5 f5 x5 y5 q4 f4 x4 y4 q3 f3 x3 y3 lg1 BB RP RQ SS
    rintro w7 ⟨bb, lg, k0, k1, k2, k3, k4, k5, k6, k7, fR, fR1, pp, pq⟩
    have BB := Lib.hid bb; have RP := Lib.hid pp; have RQ := Lib.hid pq; clear bb pp pq
    have lr0 : w.heap.size < w7.heap.size := by omega
    have lr1 : w.heap.size + 1 < w7.heap.size := by omega
    have lg0 : w5.heap.size < w7.heap.size := by omega
    obtain ⟨b1, o1, rfl, hb1, qq1⟩ := RP.out.at.1.spd (by omega)
    have z0 := qq1 (ts.length - 1) (by omega)
    obtain ⟨Z, hZ⟩ : ∃ Z, spd ts ((ts.length - 1 : Nat) : Int) = Z := ⟨_, rfl⟩
    rw [hZ] at z0
    clear qq1 hZ
    have k1 : (0 : Int) ≤ (ts.length : Int) - 1 := by omega
    have k2 : ((ts.length : Int) - 1).toNat = ts.length - 1 := by omega
    have k3 : (ts.length : Int) - 1 < ts.length := by omega
    have k4 : (1 : Int) ≤ ts.length := by omega
    go_cut [7, 8] (fun p s8 wx => ∃ bx A5 c5 A6 c6, p = .pointer (some ⟨bx, 0, none⟩) ∧ s8 = .int .i64 (shC us ms Z 0) ∧ Below w.heap.size w wx ∧ w5.heap.size + 1 < wx.heap.size ∧ w7.heap.size ≤ bx ∧ bx < wx.heap.size ∧ wx.cell? ⟨w.heap.size, 0, none⟩ = some (.slice none 0 0) ∧ wx.cell? ⟨w.heap.size, 1, none⟩ = some (.slice none 0 0) ∧ wx.cell? ⟨w.heap.size + 1, 0, none⟩ = some (.slice none 0 0) ∧ wx.cell? ⟨w.heap.size + 1, 1, none⟩ = some (.slice none 0 0) ∧ wx.cell? ⟨w5.heap.size, 0, none⟩ = some (.slice (some ⟨b1, o1, none⟩) (List.length ts) c1) ∧ wx.cell? ⟨w5.heap.size, 1, none⟩ = some (.slice A2 (List.length ls) c2) ∧ wx.cell? ⟨w5.heap.size + 1, 0, none⟩ = some (.slice A3 (List.length us) c3) ∧ wx.cell? ⟨w5.heap.size + 1, 1, none⟩ = some (.slice A4 (List.length ms) c4) ∧ wx.cell? ⟨bx, 0, none⟩ = some (.slice A5 (shT us ms Z 0).length c5) ∧ wx.cell? ⟨bx, 1, none⟩ = some (.slice A6 (shL us ms Z 0).length c6) ∧ (∀ o, wx.frozen? ⟨w.heap.size, o, none⟩ = false) ∧ (∀ o, wx.frozen? ⟨w.heap.size + 1, o, none⟩ = false) ∧ ResP wx w3.heap.size w4.heap.size (some ⟨b1, o1, none⟩) c1 A2 c2 ts ls ∧ ResP wx w4.heap.size w5.heap.size A3 c3 A4 c4 us ms ∧ ResP wx w7.heap.size wx.heap.size A5 c5 A6 c6 (shT us ms Z 0) (shL us ms Z 0))
    case first =>
      have W0 : IntKind.i64.wrap ((ts.length : Int) - 1) = (ts.length : Int) - 1 := IntWalk.i64_in _ (by omega)
      go_region_held3 (fun w' => w'.cell? ⟨w5.heap.size, 0, none⟩ = some (.slice (some ⟨b1, o1, none⟩) (List.length ts) c1) ∧ w'.cell? ⟨w5.heap.size, 1, none⟩ = some (.slice A2 (List.length ls) c2) ∧ w'.cell? ⟨w5.heap.size + 1, 0, none⟩ = some (.slice A3 (List.length us) c3) ∧ w'.cell? ⟨w5.heap.size + 1, 1, none⟩ = some (.slice A4 (List.length ms) c4) ∧ w'.cell? ⟨b1, o1 + (ts.length - 1), none⟩ = some (.int .i64 Z)) (first | (go_keep; done) | (simp [*, go_sem]; done))
        (first
          | (go_at_call 45; refine (specShift_any _ _ _ _ us ms _ 0 _ (RQ.out.kept (by repeat' (first | with_reducible exact Keep.refl _ _ _ | with_reducible refine Keep.setB ?_ ?_ _ | with_reducible refine Keep.alloc ?_ ?_ _ | with_reducible refine Keep.drew ?_ | omega | (simp; done) | (simp; omega)))).at).mono ?_; rintro e w8 ⟨⟨A5, c5, A6, c6, rfl, rx⟩, hb8⟩; refine ltcheck (c := w7.heap.size) hb8 ?_ (fun hg8 => ?_); (focus (first | omega | (simp; done) | (simp; omega))); have RX := Lib.hid rx; have RP := Lib.hid ((RP.out.kept (by repeat' (first | with_reducible exact Keep.refl _ _ _ | with_reducible refine Keep.setB ?_ ?_ _ | with_reducible refine Keep.alloc ?_ ?_ _ | with_reducible refine Keep.drew ?_ | omega | (simp; done) | (simp; omega)))).below hb8 (by first | omega | (simp; omega))); have RQ := Lib.hid ((RQ.out.kept (by repeat' (first | with_reducible exact Keep.refl _ _ _ | with_reducible refine Keep.setB ?_ ?_ _ | with_reducible refine Keep.alloc ?_ ?_ _ | with_reducible refine Keep.drew ?_ | omega | (simp; done) | (simp; omega)))).below hb8 (by first | omega | (simp; omega))); have BB := Lib.hid ((show Below w.heap.size w _ from (by first | exact BB.out | (have hb_ := BB.out; go_grown; done) | (have hb_ := BB.out; exact bdrewN (by go_grown) _))).trans (hb8.mono (by first | omega | (simp; omega)))); obtain ⟨T8, zz8, q8, f8, x8, y8⟩ := lkeep (w := w7) [w.heap.size, w.heap.size + 1, w5.heap.size, w5.heap.size + 1, b1, w7.heap.size] (by first | (simp; done) | (simp; omega)) (by first | exact Below.refl _ _ | (go_grown; done)) hb8; (try simp only [World.size_alloc, World.size_drew, size_set] at zz8); refine layJ_ (T := w8.cell? ⟨w7.heap.size, 0, none⟩ = some (.slice none 0 0)) ?_ (fun za0 => ?_); (focus (simp [*, go_sem]; done)); refine layJ_ (T := w8.cell? ⟨w7.heap.size, 1, none⟩ = some (.slice none 0 0)) ?_ (fun za1 => ?_); (focus (simp [*, go_sem]; done)); refine layJ_ (T := ∀ o, w8.frozen? ⟨w7.heap.size, o, none⟩ = false) ?_ (fun zf => ?_); (focus (intro o_; simp [*, go_sem]; done)); clear rx hb8 T8; have l80 := x8 (w.heap.size) (by simp); have l81 := x8 (w.heap.size + 1) (by simp); have l82 := x8 (w5.heap.size) (by simp); have l83 := x8 (w5.heap.size + 1) (by simp); have l84 := x8 (b1) (by simp); have l85 := x8 (w7.heap.size) (by simp))
          | (go_at_call 45; refine (specShift_any _ _ _ _ us ms _ 0 _ (RQ.out.kept (by repeat' (first | with_reducible exact Keep.refl _ _ _ | with_reducible refine Keep.setB ?_ ?_ _ | with_reducible refine Keep.alloc ?_ ?_ _ | with_reducible refine Keep.drew ?_ | omega | (simp; done) | (simp; omega)))).at).mono ?_; rintro e w8 ⟨⟨A5, c5, A6, c6, rfl, rx⟩, hb8⟩; have RX := Lib.hid rx; have RP := Lib.hid ((RP.out.kept (by repeat' (first | with_reducible exact Keep.refl _ _ _ | with_reducible refine Keep.setB ?_ ?_ _ | with_reducible refine Keep.alloc ?_ ?_ _ | with_reducible refine Keep.drew ?_ | omega | (simp; done) | (simp; omega)))).below hb8 (by first | omega | (simp; omega))); have RQ := Lib.hid ((RQ.out.kept (by repeat' (first | with_reducible exact Keep.refl _ _ _ | with_reducible refine Keep.setB ?_ ?_ _ | with_reducible refine Keep.alloc ?_ ?_ _ | with_reducible refine Keep.drew ?_ | omega | (simp; done) | (simp; omega)))).below hb8 (by first | omega | (simp; omega))); have BB := Lib.hid ((show Below w.heap.size w _ from (by first | exact BB.out | (have hb_ := BB.out; go_grown; done) | (have hb_ := BB.out; exact bdrewN (by go_grown) _))).trans (hb8.mono (by first | omega | (simp; omega)))); obtain ⟨T8, zz8, q8, f8, x8, y8⟩ := lkeep (w := w7) [w.heap.size, w.heap.size + 1, w5.heap.size, w5.heap.size + 1, b1] (by first | (simp; done) | (simp; omega)) (by first | exact Below.refl _ _ | (go_grown; done)) hb8; (try simp only [World.size_alloc, World.size_drew, size_set] at zz8); clear rx hb8 T8; have l80 := x8 (w.heap.size) (by simp); have l81 := x8 (w.heap.size + 1) (by simp); have l82 := x8 (w5.heap.size) (by simp); have l83 := x8 (w5.heap.size + 1) (by simp); have l84 := x8 (b1) (by simp)))
      all_goals go_wp2_with fail
      all_goals go_meet
      all_goals exact ⟨_, A5, c5, A6, c6, rfl, rfl, (by first | exact BB.out | (have hb_ := BB.out; go_grown; done) | (have hb_ := BB.out; exact bdrewN (by go_grown) _)), by first | omega | (simp; done) | (simp; omega), by first | omega | (simp; done) | (simp; omega), by first | omega | (simp; done) | (simp; omega), by simp [*, go_sem], by simp [*, go_sem], by simp [*, go_sem], by simp [*, go_sem], by simp [*, go_sem], by simp [*, go_sem], by simp [*, go_sem], by simp [*, go_sem], by simp [*, go_sem], by simp [*, go_sem], fun o => by simp [*, go_sem], fun o => by simp [*, go_sem], RP.out.kept (by repeat' (first | with_reducible exact Keep.refl _ _ _ | with_reducible refine Keep.setB ?_ ?_ _ | with_reducible refine Keep.alloc ?_ ?_ _ | with_reducible refine Keep.drew ?_ | omega | (simp; done) | (simp; omega))), RQ.out.kept (by repeat' (first | with_reducible exact Keep.refl _ _ _ | with_reducible refine Keep.setB ?_ ?_ _ | with_reducible refine Keep.alloc ?_ ?_ _ | with_reducible refine Keep.drew ?_ | omega | (simp; done) | (simp; omega))), ResP.mono (RX.out.kept (by repeat' (first | with_reducible exact Keep.refl _ _ _ | with_reducible refine Keep.setB ?_ ?_ _ | with_reducible refine Keep.alloc ?_ ?_ _ | with_reducible refine Keep.drew ?_ | omega | (simp; done) | (simp; omega)))) (by first | omega | (simp; done) | (simp; omega)) (by first | omega | (simp; done) | (simp; omega))⟩
    case rest =>
      obtain ⟨bx, A5, c5, A6, c6, rfl, rfl, hF⟩ := hcut
      clear k0 k1 k2 k3 k4 k5 k6 k7 fR fR1 BB RP RQ lg0 z0
      revert hF; generalize wc = w9; rintro ⟨bb, lgx, lb1, lb2, k0, k1, k2, k3, k4, k5, k6, k7, m0, m1, fR, fR1, pp, pq, px⟩
      have BB := Lib.hid bb; have RP := Lib.hid pp; have RQ := Lib.hid pq; have RX := Lib.hid px; clear bb pp pq px
      have lq0 : w.heap.size < w9.heap.size := by omega
      have lq1 : w.heap.size + 1 < w9.heap.size := by omega
      have lg0 : w5.heap.size < w9.heap.size := by omega
      obtain ⟨nba1, nbb1, nba2, nbb2⟩ : w.heap.size ≠ bx ∧ bx ≠ w.heap.size ∧ w.heap.size + 1 ≠ bx ∧ bx ≠ w.heap.size + 1 := by
        refine ⟨?_, ?_, ?_, ?_⟩ <;> omega
      obtain ⟨nca1, ncb1, nca2, ncb2⟩ : w5.heap.size ≠ bx ∧ bx ≠ w5.heap.size ∧ w5.heap.size + 1 ≠ bx ∧ bx ≠ w5.heap.size + 1 := by
        refine ⟨?_, ?_, ?_, ?_⟩ <;> omega
      by_cases hc : shC us ms Z 0 = 0
      · go_wp2_with fail
        go_region
        all_goals go_wp2
        all_goals refine bodyPost_ret (by simp [results, Try.results14, go_sem, *] <;> rfl) rfl ?_
        all_goals exact ⟨⟨_, _, _, _, ts, ls, _, _, _, _, shT us ms Z 0, shL us ms Z 0, rfl, (RP.out.kept (by repeat' (first | with_reducible exact Keep.refl _ _ _ | with_reducible refine Keep.setB ?_ ?_ _ | with_reducible refine Keep.alloc ?_ ?_ _ | with_reducible refine Keep.drew ?_ | omega | (simp; done) | (simp; omega)))).at, (RX.out.kept (by repeat' (first | with_reducible exact Keep.refl _ _ _ | with_reducible refine Keep.setB ?_ ?_ _ | with_reducible refine Keep.alloc ?_ ?_ _ | with_reducible refine Keep.drew ?_ | omega | (simp; done) | (simp; omega)))).at⟩, (by first | exact BB.out | (have hb_ := BB.out; go_grown; done) | (have hb_ := BB.out; exact bdrewN (by go_grown) _))⟩
      · have hc2 : (shC us ms Z 0 == 0) = false := beq_eq_false_iff_ne.2 hc
        go_wp2_with fail
        go_region
        all_goals go_wp2
        all_goals refine bodyPost_ret (by simp [results, Try.results14, go_sem, *] <;> rfl) rfl ?_
        all_goals exact ⟨⟨_, _, _, _, ts, ls, _, _, _, _, us, ms, rfl, (RP.out.kept (by repeat' (first | with_reducible exact Keep.refl _ _ _ | with_reducible refine Keep.setB ?_ ?_ _ | with_reducible refine Keep.alloc ?_ ?_ _ | with_reducible refine Keep.drew ?_ | omega | (simp; done) | (simp; omega)))).at, (RQ.out.kept (by repeat' (first | with_reducible exact Keep.refl _ _ _ | with_reducible refine Keep.setB ?_ ?_ _ | with_reducible refine Keep.alloc ?_ ?_ _ | with_reducible refine Keep.drew ?_ | omega | (simp; done) | (simp; omega)))).at⟩, (by first | exact BB.out | (have hb_ := BB.out; go_grown; done) | (have hb_ := BB.out; exact bdrewN (by go_grown) _))⟩
  · go_wp2_with fail
    refine genS (S := fun w' => Below w.heap.size w w' ∧ w5.heap.size + 1 < w'.heap.size ∧ w'.cell? ⟨w.heap.size, 0, none⟩ = some (.slice none 0 0) ∧ w'.cell? ⟨w.heap.size, 1, none⟩ = some (.slice none 0 0) ∧ w'.cell? ⟨w.heap.size + 1, 0, none⟩ = some (.slice none 0 0) ∧ w'.cell? ⟨w.heap.size + 1, 1, none⟩ = some (.slice none 0 0) ∧ w'.cell? ⟨w5.heap.size, 0, none⟩ = some (.slice A1 (List.length ts) c1) ∧ w'.cell? ⟨w5.heap.size, 1, none⟩ = some (.slice A2 (List.length ls) c2) ∧ w'.cell? ⟨w5.heap.size + 1, 0, none⟩ = some (.slice A3 (List.length us) c3) ∧ w'.cell? ⟨w5.heap.size + 1, 1, none⟩ = some (.slice A4 (List.length ms) c4) ∧ (∀ o, w'.frozen? ⟨w.heap.size, o, none⟩ = false) ∧ (∀ o, w'.frozen? ⟨w.heap.size + 1, o, none⟩ = false) ∧ ResP w' w3.heap.size w4.heap.size A1 c1 A2 c2 ts ls ∧ ResP w' w4.heap.size w5.heap.size A3 c3 A4 c4 us ms) ⟨BB.out, lg1, by simp [*, go_sem], by simp [*, go_sem], by simp [*, go_sem], by simp [*, go_sem], by simp [*, go_sem], by simp [*, go_sem], by simp [*, go_sem], by simp [*, go_sem], fun o => by simp [*, go_sem], fun o => by simp [*, go_sem], RP.out, RQ.out⟩ ?_
    clear q6 f6 x6 y6 q5 f5 x5 y5 q4 f4 x4 y4 q3 f3 x3 y3 lg1 BB RP RQ SS
    rintro w7 ⟨bb, lg, k0, k1, k2, k3, k4, k5, k6, k7, fR, fR1, pp, pq⟩
    have BB := Lib.hid bb; have RP := Lib.hid pp; have RQ := Lib.hid pq; clear bb pp pq
    have lr0 : w.heap.size < w7.heap.size := by omega
    have lr1 : w.heap.size + 1 < w7.heap.size := by omega
    have lg0 : w5.heap.size < w7.heap.size := by omega
    go_region
    all_goals go_wp2
    all_goals refine bodyPost_ret (by simp [results, Try.results14, go_sem, *] <;> rfl) rfl ?_
    all_goals exact ⟨⟨_, _, _, _, ts, ls, _, _, _, _, us, ms, rfl, (RP.out.kept (by repeat' (first | with_reducible exact Keep.refl _ _ _ | with_reducible refine Keep.setB ?_ ?_ _ | with_reducible refine Keep.alloc ?_ ?_ _ | with_reducible refine Keep.drew ?_ | omega | (simp; done) | (simp; omega)))).at, (RQ.out.kept (by repeat' (first | with_reducible exact Keep.refl _ _ _ | with_reducible refine Keep.setB ?_ ?_ _ | with_reducible refine Keep.alloc ?_ ?_ _ | with_reducible refine Keep.drew ?_ | omega | (simp; done) | (simp; omega)))).at⟩, (by first | exact BB.out | (have hb_ := BB.out; go_grown; done) | (have hb_ := BB.out; exact bdrewN (by go_grown) _))⟩
end Go.Proofs.Ytjabldjffpjkeaa
