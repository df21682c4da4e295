/- Two rays followed at once, by the reference. -/
import Derived.Test.YtopggkomkfjbfaaGreatCellB
import Derived.Test.YtopggkomkfjbfaaGreatStep2
import Derived.Test.YtopggkomkfjbfaaGreatState
import Derived.Deep.RegionHeld3
import Derived.BigRegion
import Derived.Deep.Cut
import Derived.Deep.DeepCutAuto
namespace Go.Proofs.YtopggkomkfjbfaaGreat
set_option linter.unusedSimpArgs false
set_option linter.unusedVariables false
open Go.RowKit

abbrev cellV (x y : Rs) (s : Bool) (lo hi : Int) : Value := .agg #[.int .i64 x.k, .bool x.d, .int .i64 x.lo, .int .i64 x.hi, .int .i64 y.k, .bool y.d, .int .i64 y.lo, .int .i64 y.hi, .bool s, .int .i64 lo, .int .i64 hi]
theorem l07First_al (src co si hy : Int) (w : World) :
    Calls Tryz.prog 71 #[.int .i64 src, dirV co si hy] w fun e w' => e = .returned (rsV src (decide (0 < si)) 0 0) ∧ ∃ o1 o2 : Obj, w' = (w.alloc o1).alloc o2 := by
  go_enter Tryz.func71, Tryz.ntmps71
  go_wp2
  go_returns
  exact ⟨rfl, _, _, rfl⟩
set_option maxRecDepth 4000 in
set_option maxHeartbeats 16000000 in
theorem l08Trace_any (A1 A2 : Option Addr) (c1 c2 : Nat) (ds ss : List Int) (src co si hy co' si' hy' : Int) (n : Nat) (w : World) (h : ProfAt w A1 c1 A2 c2 ds ss) (r : RayOk ds ss src co si hy) (r' : RayOk ds ss src co' si' hy') (hs : decide (0 < si) = decide (0 < si')) (hn : n ≤ 100) :
    Calls Tryz.prog 52 #[profV A1 ds.length c1 A2 ss.length c2, .int .i64 src, dirV co si hy, dirV co' si' hy', .int .i64 n] w fun e w' =>
      e = .returned (.tuple #[cellV (rwAt ds ss src co si hy n) (rwAt ds ss src co' si' hy' n) (sameN ds ss src co si hy co' si' hy' n) (clLo ds ss src co si hy co' si' hy' n) (clHi ds ss src co si hy co' si' hy' n), .int .i64 0]) ∧ Below w.heap.size w w' := by
  have H := Lib.hid h; have RR := Lib.hid r; have RQ := Lib.hid r'; have HS := Lib.hid hs; clear h r r' hs
  go_enter Tryz.func52, Tryz.ntmps52
  go_upto_region 1 with fail
  refine genS (S := fun w' => Below (w.heap.size) w w' ∧ w.heap.size < w'.heap.size ∧ w.heap.size + 1 < w'.heap.size ∧ w.heap.size + 1 + 1 < w'.heap.size ∧ w.heap.size + 1 + 1 + 1 < w'.heap.size ∧ w'.cell? ⟨w.heap.size, 0, none⟩ = some (.slice A1 ds.length c1) ∧ w'.cell? ⟨w.heap.size, 1, none⟩ = some (.slice A2 ss.length c2) ∧ w'.cell? ⟨w.heap.size + 1, 0, none⟩ = some (.int .i64 co) ∧ w'.cell? ⟨w.heap.size + 1, 1, none⟩ = some (.int .i64 si) ∧ w'.cell? ⟨w.heap.size + 1, 2, none⟩ = some (.int .i64 hy) ∧ w'.cell? ⟨w.heap.size + 1 + 1, 0, none⟩ = some (.int .i64 co') ∧ w'.cell? ⟨w.heap.size + 1 + 1, 1, none⟩ = some (.int .i64 si') ∧ w'.cell? ⟨w.heap.size + 1 + 1, 2, none⟩ = some (.int .i64 hy') ∧ w'.cell? ⟨w.heap.size + 1 + 1 + 1, 0, none⟩ = some (.int .i64 0) ∧ w'.cell? ⟨w.heap.size + 1 + 1 + 1, 1, none⟩ = some (.bool false) ∧ w'.cell? ⟨w.heap.size + 1 + 1 + 1, 2, none⟩ = some (.int .i64 0) ∧ w'.cell? ⟨w.heap.size + 1 + 1 + 1, 3, none⟩ = some (.int .i64 0) ∧ w'.cell? ⟨w.heap.size + 1 + 1 + 1, 4, none⟩ = some (.int .i64 0) ∧ w'.cell? ⟨w.heap.size + 1 + 1 + 1, 5, none⟩ = some (.bool false) ∧ w'.cell? ⟨w.heap.size + 1 + 1 + 1, 6, none⟩ = some (.int .i64 0) ∧ w'.cell? ⟨w.heap.size + 1 + 1 + 1, 7, none⟩ = some (.int .i64 0) ∧ w'.cell? ⟨w.heap.size + 1 + 1 + 1, 8, none⟩ = some (.bool false) ∧ w'.cell? ⟨w.heap.size + 1 + 1 + 1, 9, none⟩ = some (.int .i64 0) ∧ w'.cell? ⟨w.heap.size + 1 + 1 + 1, 10, none⟩ = some (.int .i64 0) ∧ (∀ o, w'.frozen? ⟨w.heap.size + 1 + 1 + 1, o, none⟩ = false)) ⟨(by go_grown), by first | omega | (simp; done) | (simp; omega), by first | omega | (simp; done) | (simp; omega), by first | omega | (simp; done) | (simp; omega), by first | omega | (simp; done) | (simp; omega), by simp [*, go_sem], by simp [*, go_sem], by simp [*, go_sem], by simp [*, go_sem], by simp [*, go_sem], by simp [*, go_sem], by simp [*, go_sem], by simp [*, go_sem], by simp [*, go_sem], by simp [*, go_sem], by simp [*, go_sem], by simp [*, go_sem], by simp [*, go_sem], by simp [*, go_sem], by simp [*, go_sem], by simp [*, go_sem], by simp [*, go_sem], by simp [*, go_sem], by simp [*, go_sem], fun o => by simp [*, go_sem]⟩ ?_
  rintro w1 ⟨B1, lt1_0, lt1_1, lt1_2, lt1_3, c1_0, c1_1, c1_2, c1_3, c1_4, c1_5, c1_6, c1_7, c1_8, c1_9, c1_10, c1_11, c1_12, c1_13, c1_14, c1_15, c1_16, c1_17, c1_18, fz1_0⟩
  have z1 : w.heap.size ≤ w1.heap.size := B1.size
  have B1 := Lib.hid B1
  go_cut [12] (fun p1 wx => ∃ rb1, p1 = .pointer (some ⟨rb1, 0, none⟩) ∧ Below w1.heap.size w1 wx ∧ w1.heap.size ≤ rb1 ∧ rb1 < wx.heap.size ∧ wx.cell? ⟨rb1, 0, none⟩ = some (.int .i64 src) ∧ wx.cell? ⟨rb1, 1, none⟩ = some (.bool (decide (0 < si))) ∧ wx.cell? ⟨rb1, 2, none⟩ = some (.int .i64 0) ∧ wx.cell? ⟨rb1, 3, none⟩ = some (.int .i64 0) ∧ wx.cell? ⟨rb1, 4, none⟩ = some (.int .i64 src) ∧ wx.cell? ⟨rb1, 5, none⟩ = some (.bool (decide (0 < si'))) ∧ wx.cell? ⟨rb1, 6, none⟩ = some (.int .i64 0) ∧ wx.cell? ⟨rb1, 7, none⟩ = some (.int .i64 0) ∧ wx.cell? ⟨rb1, 8, none⟩ = some (.bool true) ∧ wx.cell? ⟨rb1, 9, none⟩ = some (.int .i64 0) ∧ wx.cell? ⟨rb1, 10, none⟩ = some (.int .i64 0) ∧ (∀ o, wx.frozen? ⟨rb1, o, none⟩ = false))
  case first =>
    have la1_0 : w.heap.size < w1.heap.size := by omega
    have lb1_0 : w.heap.size < w1.heap.size + 1 := by omega
    have lc1_0 : w.heap.size < w1.heap.size + 1 + 1 := by omega
    have la1_1 : w.heap.size + 1 < w1.heap.size := by omega
    have lb1_1 : w.heap.size + 1 < w1.heap.size + 1 := by omega
    have lc1_1 : w.heap.size + 1 < w1.heap.size + 1 + 1 := by omega
    have la1_2 : w.heap.size + 1 + 1 < w1.heap.size := by omega
    have lb1_2 : w.heap.size + 1 + 1 < w1.heap.size + 1 := by omega
    have lc1_2 : w.heap.size + 1 + 1 < w1.heap.size + 1 + 1 := by omega
    have la1_3 : w.heap.size + 1 + 1 + 1 < w1.heap.size := by omega
    have lb1_3 : w.heap.size + 1 + 1 + 1 < w1.heap.size + 1 := by omega
    have lc1_3 : w.heap.size + 1 + 1 + 1 < w1.heap.size + 1 + 1 := by omega
    go_region_held3 (fun w' => w'.cell? ⟨w.heap.size + 1, 0, none⟩ = some (.int .i64 co) ∧ w'.cell? ⟨w.heap.size + 1, 1, none⟩ = some (.int .i64 si) ∧ w'.cell? ⟨w.heap.size + 1, 2, none⟩ = some (.int .i64 hy) ∧ w'.cell? ⟨w.heap.size + 1 + 1, 0, none⟩ = some (.int .i64 co') ∧ w'.cell? ⟨w.heap.size + 1 + 1, 1, none⟩ = some (.int .i64 si') ∧ w'.cell? ⟨w.heap.size + 1 + 1, 2, none⟩ = some (.int .i64 hy')) (first | (go_keep; done) | (simp [*, go_sem]; done))
      (first
        | (go_at_call 71; refine (l07First_al _ _ _ _ _).mono ?_; rintro e w' ⟨rfl, o1, o2, rfl⟩))
    all_goals go_wp2_with fail
    all_goals go_meet
    all_goals exact ⟨_, rfl, (by first | (go_grown; done) | exact bdrewN (by go_grown) _), by first | omega | (simp; done) | (simp; omega), by first | omega | (simp; done) | (simp; omega), by simp [*, go_sem], by simp [*, go_sem], by simp [*, go_sem], by simp [*, go_sem], by simp [*, go_sem], by simp [*, go_sem], by simp [*, go_sem], by simp [*, go_sem], by simp [*, go_sem], by simp [*, go_sem], by simp [*, go_sem], fun o => by simp [*, go_sem]⟩
  case rest =>
    obtain ⟨rb1, rfl, hF⟩ := hcut
    revert hF; generalize wc = w2; rintro ⟨hb2, lo2, hi2, cc2_0, cc2_1, cc2_2, cc2_3, cc2_4, cc2_5, cc2_6, cc2_7, cc2_8, cc2_9, cc2_10, cf2⟩
    have p0 := (bAt hb2 (b := w.heap.size) (o := 0) (by omega)).trans c1_0
    have p1 := (bAt hb2 (b := w.heap.size) (o := 1) (by omega)).trans c1_1
    have p2 := (bAt hb2 (b := w.heap.size + 1) (o := 0) (by omega)).trans c1_2
    have p3 := (bAt hb2 (b := w.heap.size + 1) (o := 1) (by omega)).trans c1_3
    have p4 := (bAt hb2 (b := w.heap.size + 1) (o := 2) (by omega)).trans c1_4
    have p5 := (bAt hb2 (b := w.heap.size + 1 + 1) (o := 0) (by omega)).trans c1_5
    have p6 := (bAt hb2 (b := w.heap.size + 1 + 1) (o := 1) (by omega)).trans c1_6
    have p7 := (bAt hb2 (b := w.heap.size + 1 + 1) (o := 2) (by omega)).trans c1_7
    have p8 := (bAt hb2 (b := w.heap.size + 1 + 1 + 1) (o := 0) (by omega)).trans c1_8
    have p9 := (bAt hb2 (b := w.heap.size + 1 + 1 + 1) (o := 1) (by omega)).trans c1_9
    have p10 := (bAt hb2 (b := w.heap.size + 1 + 1 + 1) (o := 2) (by omega)).trans c1_10
    have p11 := (bAt hb2 (b := w.heap.size + 1 + 1 + 1) (o := 3) (by omega)).trans c1_11
    have p12 := (bAt hb2 (b := w.heap.size + 1 + 1 + 1) (o := 4) (by omega)).trans c1_12
    have p13 := (bAt hb2 (b := w.heap.size + 1 + 1 + 1) (o := 5) (by omega)).trans c1_13
    have p14 := (bAt hb2 (b := w.heap.size + 1 + 1 + 1) (o := 6) (by omega)).trans c1_14
    have p15 := (bAt hb2 (b := w.heap.size + 1 + 1 + 1) (o := 7) (by omega)).trans c1_15
    have p16 := (bAt hb2 (b := w.heap.size + 1 + 1 + 1) (o := 8) (by omega)).trans c1_16
    have p17 := (bAt hb2 (b := w.heap.size + 1 + 1 + 1) (o := 9) (by omega)).trans c1_17
    have p18 := (bAt hb2 (b := w.heap.size + 1 + 1 + 1) (o := 10) (by omega)).trans c1_18
    have pf := fun o => (bAtF hb2 (b := w.heap.size + 1 + 1 + 1) (o := o) (by omega)).trans (fz1_0 o)
    have B2 := Lib.hid (B1.out.trans (hb2.mono (by omega)))
    have lr : w.heap.size + 1 + 1 + 1 < rb1 := by omega
    clear hb2 fz1_0 c1_0 c1_1 c1_2 c1_3 c1_4 c1_5 c1_6 c1_7 c1_8 c1_9 c1_10 c1_11 c1_12 c1_13 c1_14 c1_15 c1_16 c1_17 c1_18 lt1_0 lt1_1 lt1_2 lt1_3
    have lr2 : w.heap.size + 1 + 1 + 1 < w2.heap.size := by omega
    go_upto_region 3 with fail
    go_loopw [13] (fun i wr => ∃ (k : Nat) (xk : Int) (xd : Bool) (xl xh yk : Int) (yd : Bool) (yl yh : Int) (sm : Bool) (sl sh : Int), k ≤ n ∧ i = .int .i64 k ∧ Hid (rwAt ds ss src co si hy k = ⟨xk, xd, xl, xh⟩) ∧ Hid (rwAt ds ss src co' si' hy' k = ⟨yk, yd, yl, yh⟩) ∧ Hid (sameN ds ss src co si hy co' si' hy' k = sm) ∧ Hid (clLo ds ss src co si hy co' si' hy' k = sl) ∧ Hid (clHi ds ss src co si hy co' si' hy' k = sh) ∧ Below w.heap.size w wr ∧ rb1 < wr.heap.size ∧ wr.cell? ⟨w.heap.size, 0, none⟩ = some (.slice A1 ds.length c1) ∧ wr.cell? ⟨w.heap.size, 1, none⟩ = some (.slice A2 ss.length c2) ∧ wr.cell? ⟨w.heap.size + 1, 0, none⟩ = some (.int .i64 co) ∧ wr.cell? ⟨w.heap.size + 1, 1, none⟩ = some (.int .i64 si) ∧ wr.cell? ⟨w.heap.size + 1, 2, none⟩ = some (.int .i64 hy) ∧ wr.cell? ⟨w.heap.size + 1 + 1, 0, none⟩ = some (.int .i64 co') ∧ wr.cell? ⟨w.heap.size + 1 + 1, 1, none⟩ = some (.int .i64 si') ∧ wr.cell? ⟨w.heap.size + 1 + 1, 2, none⟩ = some (.int .i64 hy') ∧ wr.cell? ⟨w.heap.size + 1 + 1 + 1, 0, none⟩ = some (.int .i64 0) ∧ wr.cell? ⟨w.heap.size + 1 + 1 + 1, 1, none⟩ = some (.bool false) ∧ wr.cell? ⟨w.heap.size + 1 + 1 + 1, 2, none⟩ = some (.int .i64 0) ∧ wr.cell? ⟨w.heap.size + 1 + 1 + 1, 3, none⟩ = some (.int .i64 0) ∧ wr.cell? ⟨w.heap.size + 1 + 1 + 1, 4, none⟩ = some (.int .i64 0) ∧ wr.cell? ⟨w.heap.size + 1 + 1 + 1, 5, none⟩ = some (.bool false) ∧ wr.cell? ⟨w.heap.size + 1 + 1 + 1, 6, none⟩ = some (.int .i64 0) ∧ wr.cell? ⟨w.heap.size + 1 + 1 + 1, 7, none⟩ = some (.int .i64 0) ∧ wr.cell? ⟨w.heap.size + 1 + 1 + 1, 8, none⟩ = some (.bool false) ∧ wr.cell? ⟨w.heap.size + 1 + 1 + 1, 9, none⟩ = some (.int .i64 0) ∧ wr.cell? ⟨w.heap.size + 1 + 1 + 1, 10, none⟩ = some (.int .i64 0) ∧ wr.cell? ⟨rb1, 0, none⟩ = some (.int .i64 xk) ∧ wr.cell? ⟨rb1, 1, none⟩ = some (.bool xd) ∧ wr.cell? ⟨rb1, 2, none⟩ = some (.int .i64 xl) ∧ wr.cell? ⟨rb1, 3, none⟩ = some (.int .i64 xh) ∧ wr.cell? ⟨rb1, 4, none⟩ = some (.int .i64 yk) ∧ wr.cell? ⟨rb1, 5, none⟩ = some (.bool yd) ∧ wr.cell? ⟨rb1, 6, none⟩ = some (.int .i64 yl) ∧ wr.cell? ⟨rb1, 7, none⟩ = some (.int .i64 yh) ∧ wr.cell? ⟨rb1, 8, none⟩ = some (.bool sm) ∧ wr.cell? ⟨rb1, 9, none⟩ = some (.int .i64 sl) ∧ wr.cell? ⟨rb1, 10, none⟩ = some (.int .i64 sh) ∧ (∀ o, wr.frozen? ⟨w.heap.size + 1 + 1 + 1, o, none⟩ = false) ∧ (∀ o, wr.frozen? ⟨rb1, o, none⟩ = false)) (fun i _ => n - (intOf i).toNat)
    case atStart => exact ⟨0, _, _, _, _, _, _, _, _, _, _, _, by omega, rfl, Lib.hid rfl, Lib.hid rfl, Lib.hid rfl, Lib.hid rfl, Lib.hid rfl, B2.out, hi2, p0, p1, p2, p3, p4, p5, p6, p7, p8, p9, p10, p11, p12, p13, p14, p15, p16, p17, p18, cc2_0, cc2_1, cc2_2, cc2_3, cc2_4, cc2_5, cc2_6, cc2_7, cc2_8, cc2_9, cc2_10, pf, cf2⟩
    case round =>
      clear pf cf2 B2 hi2 p0 p1 p2 p3 p4 p5 p6 p7 p8 p9 p10 p11 p12 p13 p14 p15 p16 p17 p18 cc2_0 cc2_1 cc2_2 cc2_3 cc2_4 cc2_5 cc2_6 cc2_7 cc2_8 cc2_9 cc2_10
      obtain ⟨k, xk, xd, xl, xh, yk, yd, yl, yh, sm, sl, sh, hk, rfl, hx, hy_, hsm, hsl, hsh, Br, lc, r0, r1, r2, r3, r4, r5, r6, r7, r8, r9, r10, r11, r12, r13, r14, r15, r16, r17, r18, g0, g1, g2, g3, g4, g5, g6, g7, g8, g9, g10, fR, fC⟩ := hrel
      have BR := Lib.hid Br
      have sr : w.heap.size ≤ wr.heap.size := Br.size
      have HP := Lib.hid (H.out.below Br (Nat.le_refl _))
      clear Br
      by_cases hlt : (k : Int) < n
      · obtain ⟨v, xk', xd', xl', xh', bl, bh, v', yk', yd', yl', yh', cl, ch, sl', sh', ri⟩ := round_is RR.out RQ.out HS.out (show k < 100 by omega) hx.out hy_.out hsl.out hsh.out
        obtain ⟨x1, x2, x3, x4, x5, x6, -, -⟩ := ri.sx
        obtain ⟨y1, y2, y3, y4, y5, y6, -, -⟩ := ri.sy
        have kx := ri.kx; have ky := ri.ky; have k1 := ri.k1; have k2 := ri.k2; have k3 := ri.k3; have k4 := ri.k4; have k5 := ri.k5; have k6 := ri.k6; have k7 := ri.k7; have a1 := ri.a1; have a2 := ri.a2; have a3 := ri.a3; have a4 := ri.a4; have b1 := ri.b1; have b2 := ri.b2
        have kxc := Lib.hid kx.2.2; have kyc := Lib.hid ky.2.2
        have kx0 := kx.1; have kx1 := kx.2.1; have ky0 := ky.1; have ky1 := ky.2.1
        have RI := Lib.hid ri; clear ri kx ky
        have A_ := Lib.hid (And.intro a1 (And.intro a2 (And.intro a3 (And.intro a4 (And.intro b1 b2))))); clear a1 a2 a3 a4 b1 b2
        obtain ⟨naa1, nab1, naa2, nab2, naa3, nab3, naa4, nab4⟩ : (w.heap.size = rb1) = False ∧ (rb1 = w.heap.size) = False ∧ (w.heap.size + 1 = rb1) = False ∧ (rb1 = w.heap.size + 1) = False ∧ (w.heap.size + 1 + 1 = rb1) = False ∧ (rb1 = w.heap.size + 1 + 1) = False ∧ (w.heap.size + 1 + 1 + 1 = rb1) = False ∧ (rb1 = w.heap.size + 1 + 1 + 1) = False := by
          refine ⟨?_, ?_, ?_, ?_, ?_, ?_, ?_, ?_⟩ <;> exact eq_false (by omega)
        go_upto_region 6 with (go_at_call 72; refine (specStep_any _ _ _ _ ds ss src co si hy xk xd xl xh _ ⟨(HP.out.1.below (B := wr.heap.size) (by first | exact Below.refl _ _ | (go_grown; done) | exact bdrewN (by go_grown) _) (Nat.le_refl _)), (HP.out.2.below (B := wr.heap.size) (by first | exact Below.refl _ _ | (go_grown; done) | exact bdrewN (by go_grown) _) (Nat.le_refl _))⟩ RR.out kx0 kx1 kxc.out (by omega) (by omega) (by omega) (by omega)).mono ?_; rintro e w6 ⟨rfl, hb6⟩; obtain ⟨B6, hz6, q6, s6, t6, x6, y6, z6⟩ := bkeep (w := wr) [w.heap.size, w.heap.size + 1, w.heap.size + 1 + 1, w.heap.size + 1 + 1 + 1, rb1] (by first | (simp; done) | (simp; omega)) (by first | (go_grown; done) | exact bdrewN (by go_grown) _) hb6; (try simp at hz6); clear hb6)
        go_upto_region 7 with (go_at_call 72; refine (specStep_any _ _ _ _ ds ss src co' si' hy' yk yd yl yh _ ⟨(HP.out.1.below (B := wr.heap.size) (by first | exact Below.refl _ _ | (go_grown; done) | exact bdrewN (by go_grown) _) (Nat.le_refl _)), (HP.out.2.below (B := wr.heap.size) (by first | exact Below.refl _ _ | (go_grown; done) | exact bdrewN (by go_grown) _) (Nat.le_refl _))⟩ RQ.out ky0 ky1 kyc.out (by omega) (by omega) (by omega) (by omega)).mono ?_; rintro e w7 ⟨rfl, hb7⟩; obtain ⟨B7, hz7, q7, s7, t7, x7, y7, z7⟩ := bkeep (w := wr) [w.heap.size, w.heap.size + 1, w.heap.size + 1 + 1, w.heap.size + 1 + 1 + 1, rb1, w6.heap.size] (by first | (simp; done) | (simp; omega)) (by first | (go_grown; done) | exact bdrewN (by go_grown) _) hb7; (try simp at hz7); clear hb7)
        have lx : rb1 < w6.heap.size := by omega
        have ly : w6.heap.size < w7.heap.size := by omega
        refine genS (S := fun w' => Below (wr.heap.size) wr w' ∧ rb1 < w'.heap.size ∧ w6.heap.size < w'.heap.size ∧ w7.heap.size < w'.heap.size ∧ w'.cell? ⟨w.heap.size, 0, none⟩ = some (.slice A1 ds.length c1) ∧ w'.cell? ⟨w.heap.size, 1, none⟩ = some (.slice A2 ss.length c2) ∧ w'.cell? ⟨w.heap.size + 1, 0, none⟩ = some (.int .i64 co) ∧ w'.cell? ⟨w.heap.size + 1, 1, none⟩ = some (.int .i64 si) ∧ w'.cell? ⟨w.heap.size + 1, 2, none⟩ = some (.int .i64 hy) ∧ w'.cell? ⟨w.heap.size + 1 + 1, 0, none⟩ = some (.int .i64 co') ∧ w'.cell? ⟨w.heap.size + 1 + 1, 1, none⟩ = some (.int .i64 si') ∧ w'.cell? ⟨w.heap.size + 1 + 1, 2, none⟩ = some (.int .i64 hy') ∧ w'.cell? ⟨w.heap.size + 1 + 1 + 1, 0, none⟩ = some (.int .i64 0) ∧ w'.cell? ⟨w.heap.size + 1 + 1 + 1, 1, none⟩ = some (.bool false) ∧ w'.cell? ⟨w.heap.size + 1 + 1 + 1, 2, none⟩ = some (.int .i64 0) ∧ w'.cell? ⟨w.heap.size + 1 + 1 + 1, 3, none⟩ = some (.int .i64 0) ∧ w'.cell? ⟨w.heap.size + 1 + 1 + 1, 4, none⟩ = some (.int .i64 0) ∧ w'.cell? ⟨w.heap.size + 1 + 1 + 1, 5, none⟩ = some (.bool false) ∧ w'.cell? ⟨w.heap.size + 1 + 1 + 1, 6, none⟩ = some (.int .i64 0) ∧ w'.cell? ⟨w.heap.size + 1 + 1 + 1, 7, none⟩ = some (.int .i64 0) ∧ w'.cell? ⟨w.heap.size + 1 + 1 + 1, 8, none⟩ = some (.bool false) ∧ w'.cell? ⟨w.heap.size + 1 + 1 + 1, 9, none⟩ = some (.int .i64 0) ∧ w'.cell? ⟨w.heap.size + 1 + 1 + 1, 10, none⟩ = some (.int .i64 0) ∧ w'.cell? ⟨rb1, 0, none⟩ = some (.int .i64 xk) ∧ w'.cell? ⟨rb1, 1, none⟩ = some (.bool xd) ∧ w'.cell? ⟨rb1, 2, none⟩ = some (.int .i64 xl) ∧ w'.cell? ⟨rb1, 3, none⟩ = some (.int .i64 xh) ∧ w'.cell? ⟨rb1, 4, none⟩ = some (.int .i64 yk) ∧ w'.cell? ⟨rb1, 5, none⟩ = some (.bool yd) ∧ w'.cell? ⟨rb1, 6, none⟩ = some (.int .i64 yl) ∧ w'.cell? ⟨rb1, 7, none⟩ = some (.int .i64 yh) ∧ w'.cell? ⟨rb1, 8, none⟩ = some (.bool sm) ∧ w'.cell? ⟨rb1, 9, none⟩ = some (.int .i64 sl) ∧ w'.cell? ⟨rb1, 10, none⟩ = some (.int .i64 sh) ∧ w'.cell? ⟨w6.heap.size, 0, none⟩ = some (.int .i64 xk') ∧ w'.cell? ⟨w6.heap.size, 1, none⟩ = some (.bool xd') ∧ w'.cell? ⟨w6.heap.size, 2, none⟩ = some (.int .i64 xl') ∧ w'.cell? ⟨w6.heap.size, 3, none⟩ = some (.int .i64 xh') ∧ w'.cell? ⟨w7.heap.size, 0, none⟩ = some (.int .i64 yk') ∧ w'.cell? ⟨w7.heap.size, 1, none⟩ = some (.bool yd') ∧ w'.cell? ⟨w7.heap.size, 2, none⟩ = some (.int .i64 yl') ∧ w'.cell? ⟨w7.heap.size, 3, none⟩ = some (.int .i64 yh') ∧ (∀ o, w'.frozen? ⟨w.heap.size + 1 + 1 + 1, o, none⟩ = false) ∧ (∀ o, w'.frozen? ⟨rb1, o, none⟩ = false)) ⟨(by first | exact B7 | (go_grown; done) | exact bdrewN B7 _), by first | omega | (simp; done) | (simp; omega), by first | omega | (simp; done) | (simp; omega), by first | omega | (simp; done) | (simp; omega), by simp [*, go_sem], by simp [*, go_sem], by simp [*, go_sem], by simp [*, go_sem], by simp [*, go_sem], by simp [*, go_sem], by simp [*, go_sem], by simp [*, go_sem], by simp [*, go_sem], by simp [*, go_sem], by simp [*, go_sem], by simp [*, go_sem], by simp [*, go_sem], by simp [*, go_sem], by simp [*, go_sem], by simp [*, go_sem], by simp [*, go_sem], by simp [*, go_sem], by simp [*, go_sem], by simp [*, go_sem], by simp [*, go_sem], by simp [*, go_sem], by simp [*, go_sem], by simp [*, go_sem], by simp [*, go_sem], by simp [*, go_sem], by simp [*, go_sem], by simp [*, go_sem], by simp [*, go_sem], by simp [*, go_sem], by simp [*, go_sem], by simp [*, go_sem], by simp [*, go_sem], by simp [*, go_sem], by simp [*, go_sem], by simp [*, go_sem], by simp [*, go_sem], by simp [*, go_sem], fun o => by simp [*, go_sem], fun o => by simp [*, go_sem]⟩ ?_
        clear fR fC r0 r1 r2 r3 r4 r5 r6 r7 r8 r9 r10 r11 r12 r13 r14 r15 r16 r17 r18 g0 g1 g2 g3 g4 g5 g6 g7 g8 g9 g10
        rintro w8 ⟨B8, lt8_0, lt8_1, lt8_2, c8_0, c8_1, c8_2, c8_3, c8_4, c8_5, c8_6, c8_7, c8_8, c8_9, c8_10, c8_11, c8_12, c8_13, c8_14, c8_15, c8_16, c8_17, c8_18, c8_19, c8_20, c8_21, c8_22, c8_23, c8_24, c8_25, c8_26, c8_27, c8_28, c8_29, c8_30, c8_31, c8_32, c8_33, c8_34, c8_35, c8_36, c8_37, fz8_0, fz8_1⟩
        have z8 : wr.heap.size ≤ w8.heap.size := B8.size
        have HB8 := Lib.hid (BR.out.trans (B8.mono sr)); clear B8
        obtain ⟨a1, a2, a3, a4, b1, b2⟩ := A_.out
        obtain ⟨mn, hmn⟩ : ∃ x, min bl cl = x := ⟨_, rfl⟩
        obtain ⟨mx, hmx⟩ : ∃ x, max bh ch = x := ⟨_, rfl⟩
        rw [hmn] at b1; rw [hmx] at b2
        obtain ⟨sq, hsq⟩ : ∃ x, (sm && decide (v = v')) = x := ⟨_, rfl⟩
        have HSQ := Lib.hid hsq; have HMN := Lib.hid hmn; have HMX := Lib.hid hmx; have HA1 := Lib.hid a1; have HA2 := Lib.hid a2; have HA3 := Lib.hid a3; have HA4 := Lib.hid a4; have BB1 := Lib.hid b1; have BB2 := Lib.hid b2; clear hsq hmn hmx a1 a2 a3 a4 b1 b2 A_
        obtain ⟨nba1, nbb1, nba2, nbb2, nba3, nbb3, nba4, nbb4, nba5, nbb5, nba6, nbb6, nba7, nbb7, nba8, nbb8, nba9, nbb9, nba10, nbb10⟩ : (w.heap.size = w6.heap.size) = False ∧ (w6.heap.size = w.heap.size) = False ∧ (w.heap.size = w7.heap.size) = False ∧ (w7.heap.size = w.heap.size) = False ∧ (w.heap.size + 1 = w6.heap.size) = False ∧ (w6.heap.size = w.heap.size + 1) = False ∧ (w.heap.size + 1 = w7.heap.size) = False ∧ (w7.heap.size = w.heap.size + 1) = False ∧ (w.heap.size + 1 + 1 = w6.heap.size) = False ∧ (w6.heap.size = w.heap.size + 1 + 1) = False ∧ (w.heap.size + 1 + 1 = w7.heap.size) = False ∧ (w7.heap.size = w.heap.size + 1 + 1) = False ∧ (w.heap.size + 1 + 1 + 1 = w6.heap.size) = False ∧ (w6.heap.size = w.heap.size + 1 + 1 + 1) = False ∧ (w.heap.size + 1 + 1 + 1 = w7.heap.size) = False ∧ (w7.heap.size = w.heap.size + 1 + 1 + 1) = False ∧ (rb1 = w6.heap.size) = False ∧ (w6.heap.size = rb1) = False ∧ (rb1 = w7.heap.size) = False ∧ (w7.heap.size = rb1) = False := by
          refine ⟨?_, ?_, ?_, ?_, ?_, ?_, ?_, ?_, ?_, ?_, ?_, ?_, ?_, ?_, ?_, ?_, ?_, ?_, ?_, ?_⟩ <;> exact eq_false (by omega)
        have nxy : (w6.heap.size = w7.heap.size) = False := eq_false (by omega)
        have nyx : (w7.heap.size = w6.heap.size) = False := eq_false (by omega)
        go_upto_region 9 with fail
        go_cut [] (fun wx => wx = w8.setCell ⟨rb1, 8, none⟩ (.bool sq))
        case first =>
          rcases sm with _ | _
          · go_wp2_with fail
            go_meet
            exact by rw [← HSQ.out]; first | rfl | simp
          · go_wp2_with fail
            go_meet
            exact by rw [← HSQ.out]; first | rfl | simp
        case rest =>
          subst hcut
          refine genS (S := fun w' => Below (w.heap.size) w w' ∧ rb1 < w'.heap.size ∧ w6.heap.size < w'.heap.size ∧ w7.heap.size < w'.heap.size ∧ w'.cell? ⟨w.heap.size, 0, none⟩ = some (.slice A1 ds.length c1) ∧ w'.cell? ⟨w.heap.size, 1, none⟩ = some (.slice A2 ss.length c2) ∧ w'.cell? ⟨w.heap.size + 1, 0, none⟩ = some (.int .i64 co) ∧ w'.cell? ⟨w.heap.size + 1, 1, none⟩ = some (.int .i64 si) ∧ w'.cell? ⟨w.heap.size + 1, 2, none⟩ = some (.int .i64 hy) ∧ w'.cell? ⟨w.heap.size + 1 + 1, 0, none⟩ = some (.int .i64 co') ∧ w'.cell? ⟨w.heap.size + 1 + 1, 1, none⟩ = some (.int .i64 si') ∧ w'.cell? ⟨w.heap.size + 1 + 1, 2, none⟩ = some (.int .i64 hy') ∧ w'.cell? ⟨w.heap.size + 1 + 1 + 1, 0, none⟩ = some (.int .i64 0) ∧ w'.cell? ⟨w.heap.size + 1 + 1 + 1, 1, none⟩ = some (.bool false) ∧ w'.cell? ⟨w.heap.size + 1 + 1 + 1, 2, none⟩ = some (.int .i64 0) ∧ w'.cell? ⟨w.heap.size + 1 + 1 + 1, 3, none⟩ = some (.int .i64 0) ∧ w'.cell? ⟨w.heap.size + 1 + 1 + 1, 4, none⟩ = some (.int .i64 0) ∧ w'.cell? ⟨w.heap.size + 1 + 1 + 1, 5, none⟩ = some (.bool false) ∧ w'.cell? ⟨w.heap.size + 1 + 1 + 1, 6, none⟩ = some (.int .i64 0) ∧ w'.cell? ⟨w.heap.size + 1 + 1 + 1, 7, none⟩ = some (.int .i64 0) ∧ w'.cell? ⟨w.heap.size + 1 + 1 + 1, 8, none⟩ = some (.bool false) ∧ w'.cell? ⟨w.heap.size + 1 + 1 + 1, 9, none⟩ = some (.int .i64 0) ∧ w'.cell? ⟨w.heap.size + 1 + 1 + 1, 10, none⟩ = some (.int .i64 0) ∧ w'.cell? ⟨rb1, 0, none⟩ = some (.int .i64 xk) ∧ w'.cell? ⟨rb1, 1, none⟩ = some (.bool xd) ∧ w'.cell? ⟨rb1, 2, none⟩ = some (.int .i64 xl) ∧ w'.cell? ⟨rb1, 3, none⟩ = some (.int .i64 xh) ∧ w'.cell? ⟨rb1, 4, none⟩ = some (.int .i64 yk) ∧ w'.cell? ⟨rb1, 5, none⟩ = some (.bool yd) ∧ w'.cell? ⟨rb1, 6, none⟩ = some (.int .i64 yl) ∧ w'.cell? ⟨rb1, 7, none⟩ = some (.int .i64 yh) ∧ w'.cell? ⟨rb1, 8, none⟩ = some (.bool sq) ∧ w'.cell? ⟨rb1, 9, none⟩ = some (.int .i64 sl) ∧ w'.cell? ⟨rb1, 10, none⟩ = some (.int .i64 sh) ∧ w'.cell? ⟨w6.heap.size, 0, none⟩ = some (.int .i64 xk') ∧ w'.cell? ⟨w6.heap.size, 1, none⟩ = some (.bool xd') ∧ w'.cell? ⟨w6.heap.size, 2, none⟩ = some (.int .i64 xl') ∧ w'.cell? ⟨w6.heap.size, 3, none⟩ = some (.int .i64 xh') ∧ w'.cell? ⟨w7.heap.size, 0, none⟩ = some (.int .i64 yk') ∧ w'.cell? ⟨w7.heap.size, 1, none⟩ = some (.bool yd') ∧ w'.cell? ⟨w7.heap.size, 2, none⟩ = some (.int .i64 yl') ∧ w'.cell? ⟨w7.heap.size, 3, none⟩ = some (.int .i64 yh') ∧ (∀ o, w'.frozen? ⟨w.heap.size + 1 + 1 + 1, o, none⟩ = false) ∧ (∀ o, w'.frozen? ⟨rb1, o, none⟩ = false)) ⟨(by have hb_ := HB8.out; first | (go_grown; done) | exact bdrewN (by go_grown) _), by first | omega | (simp; done) | (simp; omega), by first | omega | (simp; done) | (simp; omega), by first | omega | (simp; done) | (simp; omega), by simp [*, go_sem], by simp [*, go_sem], by simp [*, go_sem], by simp [*, go_sem], by simp [*, go_sem], by simp [*, go_sem], by simp [*, go_sem], by simp [*, go_sem], by simp [*, go_sem], by simp [*, go_sem], by simp [*, go_sem], by simp [*, go_sem], by simp [*, go_sem], by simp [*, go_sem], by simp [*, go_sem], by simp [*, go_sem], by simp [*, go_sem], by simp [*, go_sem], by simp [*, go_sem], by simp [*, go_sem], by simp [*, go_sem], by simp [*, go_sem], by simp [*, go_sem], by simp [*, go_sem], by simp [*, go_sem], by simp [*, go_sem], by simp [*, go_sem], by simp [*, go_sem], by simp [*, go_sem], by simp [*, go_sem], by simp [*, go_sem], by simp [*, go_sem], by simp [*, go_sem], by simp [*, go_sem], by simp [*, go_sem], by simp [*, go_sem], by simp [*, go_sem], by simp [*, go_sem], fun o => by simp [*, go_sem], fun o => by simp [*, go_sem]⟩ ?_
          clear HB8 c8_0 c8_1 c8_2 c8_3 c8_4 c8_5 c8_6 c8_7 c8_8 c8_9 c8_10 c8_11 c8_12 c8_13 c8_14 c8_15 c8_16 c8_17 c8_18 c8_19 c8_20 c8_21 c8_22 c8_23 c8_24 c8_25 c8_26 c8_27 c8_28 c8_29 c8_30 c8_31 c8_32 c8_33 c8_34 c8_35 c8_36 c8_37 fz8_0 fz8_1 lt8_0 lt8_1 lt8_2
          rintro w9 ⟨B9, lt9_0, lt9_1, lt9_2, c9_0, c9_1, c9_2, c9_3, c9_4, c9_5, c9_6, c9_7, c9_8, c9_9, c9_10, c9_11, c9_12, c9_13, c9_14, c9_15, c9_16, c9_17, c9_18, c9_19, c9_20, c9_21, c9_22, c9_23, c9_24, c9_25, c9_26, c9_27, c9_28, c9_29, c9_30, c9_31, c9_32, c9_33, c9_34, c9_35, c9_36, c9_37, fz9_0, fz9_1⟩
          have z9 : w.heap.size ≤ w9.heap.size := B9.size
          have a1 := HA1.out; have a2 := HA2.out; have a3 := HA3.out; have a4 := HA4.out
          have gmn : (if cl < bl then cl else bl) = mn := by have := HMN.out; split <;> omega
          have gmx : (if bh < ch then ch else bh) = mx := by have := HMX.out; split <;> omega
          go_upto_region 12 with fail
          clear gmn gmx a1 a2 a3 a4
          have ee1 := BB1.out; have ee2 := BB2.out
          obtain ⟨m1, m2, m3⟩ := lim_in (lo := sl + mn) (hi := sh + mx) (c := 3) (by omega) (by omega) (by omega)
          have LMT := Lib.hid (show ∀ w, Calls Tryz.prog 73 #[.int .i64 (sl + mn), .int .i64 (sh + mx)] w fun e w' => e = .returned (.tuple #[ivV sl' sh', .int .i64 0]) ∧ Below w.heap.size w w' from fun w => by have q := l06Limit_any (sl + mn) (sh + mx) w; rw [m1.trans ee1, m2.trans ee2, m3] at q; exact q)
          clear m1 m2 m3 ee1 ee2
          have wz1 : -1000000000000 ≤ mn := by have := HMN.out; omega
          have wz2 : mn ≤ 1000000000000 := by have := BB1.out; omega
          have wz3 : -1000000000000 ≤ mx := by have := HMX.out; omega
          have wz4 : mx ≤ 1000000000000 := by have := BB2.out; omega
          go_upto_region 13 with (go_at_call 73; refine (LMT.out _).mono ?_; rintro e w10 ⟨rfl, hb10⟩; obtain ⟨B10, hz10, q10, s10, t10, x10, y10, z10⟩ := bkeep (w := w9) [w.heap.size, w.heap.size + 1, w.heap.size + 1 + 1, w.heap.size + 1 + 1 + 1, rb1, w6.heap.size, w7.heap.size] (by first | (simp; done) | (simp; omega)) (by first | (go_grown; done) | exact bdrewN (by go_grown) _) hb10; (try simp at hz10); clear hb10)
          have BX := Lib.hid (B9.trans (B10.mono z9))
          have lz : w7.heap.size < w10.heap.size := by omega
          obtain ⟨nca1, ncb1, nca2, ncb2, nca3, ncb3, nca4, ncb4, nca5, ncb5, nca6, ncb6, nca7, ncb7⟩ : (w.heap.size = w10.heap.size) = False ∧ (w10.heap.size = w.heap.size) = False ∧ (w.heap.size + 1 = w10.heap.size) = False ∧ (w10.heap.size = w.heap.size + 1) = False ∧ (w.heap.size + 1 + 1 = w10.heap.size) = False ∧ (w10.heap.size = w.heap.size + 1 + 1) = False ∧ (w.heap.size + 1 + 1 + 1 = w10.heap.size) = False ∧ (w10.heap.size = w.heap.size + 1 + 1 + 1) = False ∧ (rb1 = w10.heap.size) = False ∧ (w10.heap.size = rb1) = False ∧ (w6.heap.size = w10.heap.size) = False ∧ (w10.heap.size = w6.heap.size) = False ∧ (w7.heap.size = w10.heap.size) = False ∧ (w10.heap.size = w7.heap.size) = False := by
            refine ⟨?_, ?_, ?_, ?_, ?_, ?_, ?_, ?_, ?_, ?_, ?_, ?_, ?_, ?_⟩ <;> exact eq_false (by omega)
          refine genS (S := fun w' => Below (w.heap.size) w w' ∧ rb1 < w'.heap.size ∧ w6.heap.size < w'.heap.size ∧ w7.heap.size < w'.heap.size ∧ w10.heap.size < w'.heap.size ∧ w'.cell? ⟨w.heap.size, 0, none⟩ = some (.slice A1 ds.length c1) ∧ w'.cell? ⟨w.heap.size, 1, none⟩ = some (.slice A2 ss.length c2) ∧ w'.cell? ⟨w.heap.size + 1, 0, none⟩ = some (.int .i64 co) ∧ w'.cell? ⟨w.heap.size + 1, 1, none⟩ = some (.int .i64 si) ∧ w'.cell? ⟨w.heap.size + 1, 2, none⟩ = some (.int .i64 hy) ∧ w'.cell? ⟨w.heap.size + 1 + 1, 0, none⟩ = some (.int .i64 co') ∧ w'.cell? ⟨w.heap.size + 1 + 1, 1, none⟩ = some (.int .i64 si') ∧ w'.cell? ⟨w.heap.size + 1 + 1, 2, none⟩ = some (.int .i64 hy') ∧ w'.cell? ⟨w.heap.size + 1 + 1 + 1, 0, none⟩ = some (.int .i64 0) ∧ w'.cell? ⟨w.heap.size + 1 + 1 + 1, 1, none⟩ = some (.bool false) ∧ w'.cell? ⟨w.heap.size + 1 + 1 + 1, 2, none⟩ = some (.int .i64 0) ∧ w'.cell? ⟨w.heap.size + 1 + 1 + 1, 3, none⟩ = some (.int .i64 0) ∧ w'.cell? ⟨w.heap.size + 1 + 1 + 1, 4, none⟩ = some (.int .i64 0) ∧ w'.cell? ⟨w.heap.size + 1 + 1 + 1, 5, none⟩ = some (.bool false) ∧ w'.cell? ⟨w.heap.size + 1 + 1 + 1, 6, none⟩ = some (.int .i64 0) ∧ w'.cell? ⟨w.heap.size + 1 + 1 + 1, 7, none⟩ = some (.int .i64 0) ∧ w'.cell? ⟨w.heap.size + 1 + 1 + 1, 8, none⟩ = some (.bool false) ∧ w'.cell? ⟨w.heap.size + 1 + 1 + 1, 9, none⟩ = some (.int .i64 0) ∧ w'.cell? ⟨w.heap.size + 1 + 1 + 1, 10, none⟩ = some (.int .i64 0) ∧ w'.cell? ⟨rb1, 0, none⟩ = some (.int .i64 xk) ∧ w'.cell? ⟨rb1, 1, none⟩ = some (.bool xd) ∧ w'.cell? ⟨rb1, 2, none⟩ = some (.int .i64 xl) ∧ w'.cell? ⟨rb1, 3, none⟩ = some (.int .i64 xh) ∧ w'.cell? ⟨rb1, 4, none⟩ = some (.int .i64 yk) ∧ w'.cell? ⟨rb1, 5, none⟩ = some (.bool yd) ∧ w'.cell? ⟨rb1, 6, none⟩ = some (.int .i64 yl) ∧ w'.cell? ⟨rb1, 7, none⟩ = some (.int .i64 yh) ∧ w'.cell? ⟨rb1, 8, none⟩ = some (.bool sq) ∧ w'.cell? ⟨rb1, 9, none⟩ = some (.int .i64 sl) ∧ w'.cell? ⟨rb1, 10, none⟩ = some (.int .i64 sh) ∧ w'.cell? ⟨w6.heap.size, 0, none⟩ = some (.int .i64 xk') ∧ w'.cell? ⟨w6.heap.size, 1, none⟩ = some (.bool xd') ∧ w'.cell? ⟨w6.heap.size, 2, none⟩ = some (.int .i64 xl') ∧ w'.cell? ⟨w6.heap.size, 3, none⟩ = some (.int .i64 xh') ∧ w'.cell? ⟨w7.heap.size, 0, none⟩ = some (.int .i64 yk') ∧ w'.cell? ⟨w7.heap.size, 1, none⟩ = some (.bool yd') ∧ w'.cell? ⟨w7.heap.size, 2, none⟩ = some (.int .i64 yl') ∧ w'.cell? ⟨w7.heap.size, 3, none⟩ = some (.int .i64 yh') ∧ w'.cell? ⟨w10.heap.size, 0, none⟩ = some (.int .i64 sl') ∧ w'.cell? ⟨w10.heap.size, 1, none⟩ = some (.int .i64 sh') ∧ (∀ o, w'.frozen? ⟨w.heap.size + 1 + 1 + 1, o, none⟩ = false) ∧ (∀ o, w'.frozen? ⟨rb1, o, none⟩ = false)) ⟨(by have hb_ := BX.out; first | exact hb_ | (go_grown; done) | exact bdrewN (by go_grown) _), by first | omega | (simp; done) | (simp; omega), by first | omega | (simp; done) | (simp; omega), by first | omega | (simp; done) | (simp; omega), by first | omega | (simp; done) | (simp; omega), by simp [*, go_sem], by simp [*, go_sem], by simp [*, go_sem], by simp [*, go_sem], by simp [*, go_sem], by simp [*, go_sem], by simp [*, go_sem], by simp [*, go_sem], by simp [*, go_sem], by simp [*, go_sem], by simp [*, go_sem], by simp [*, go_sem], by simp [*, go_sem], by simp [*, go_sem], by simp [*, go_sem], by simp [*, go_sem], by simp [*, go_sem], by simp [*, go_sem], by simp [*, go_sem], by simp [*, go_sem], by simp [*, go_sem], by simp [*, go_sem], by simp [*, go_sem], by simp [*, go_sem], by simp [*, go_sem], by simp [*, go_sem], by simp [*, go_sem], by simp [*, go_sem], by simp [*, go_sem], by simp [*, go_sem], by simp [*, go_sem], by simp [*, go_sem], by simp [*, go_sem], by simp [*, go_sem], by simp [*, go_sem], by simp [*, go_sem], by simp [*, go_sem], by simp [*, go_sem], by simp [*, go_sem], by simp [*, go_sem], fun o => by simp [*, go_sem], fun o => by simp [*, go_sem]⟩ ?_
          clear B9 q10 s10 t10 x10 y10 z10 hz10 B10 c9_0 c9_1 c9_2 c9_3 c9_4 c9_5 c9_6 c9_7 c9_8 c9_9 c9_10 c9_11 c9_12 c9_13 c9_14 c9_15 c9_16 c9_17 c9_18 c9_19 c9_20 c9_21 c9_22 c9_23 c9_24 c9_25 c9_26 c9_27 c9_28 c9_29 c9_30 c9_31 c9_32 c9_33 c9_34 c9_35 c9_36 c9_37 fz9_0 fz9_1 lt9_0 lt9_1 lt9_2
          rintro w11 ⟨B11, lt11_0, lt11_1, lt11_2, lt11_3, c11_0, c11_1, c11_2, c11_3, c11_4, c11_5, c11_6, c11_7, c11_8, c11_9, c11_10, c11_11, c11_12, c11_13, c11_14, c11_15, c11_16, c11_17, c11_18, c11_19, c11_20, c11_21, c11_22, c11_23, c11_24, c11_25, c11_26, c11_27, c11_28, c11_29, c11_30, c11_31, c11_32, c11_33, c11_34, c11_35, c11_36, c11_37, c11_38, c11_39, fz11_0, fz11_1⟩
          have z11 : w.heap.size ≤ w11.heap.size := B11.size
          have HB11 := Lib.hid B11; clear B11
          go_wp2
          go_roundw
          case rel =>
            refine ⟨k + 1, xk', xd', xl', xh', yk', yd', yl', yh', sq, sl', sh', ?_, ?_, Lib.hid RI.out.ex, Lib.hid RI.out.ey, Lib.hid (by rw [RI.out.es, hsm.out]; exact HSQ.out), Lib.hid RI.out.el, Lib.hid RI.out.eh, ?_, ?_, ?_, ?_, ?_, ?_, ?_, ?_, ?_, ?_, ?_, ?_, ?_, ?_, ?_, ?_, ?_, ?_, ?_, ?_, ?_, ?_, ?_, ?_, ?_, ?_, ?_, ?_, ?_, ?_, ?_, ?_, ?_, ?_⟩
            · omega
            · go_num
            · have hb_ := HB11.out; first | (go_grown; done) | exact bdrewN (by go_grown) _
            · first | omega | (simp; done) | (simp; omega)
            · simp [*, go_sem]
            · simp [*, go_sem]
            · simp [*, go_sem]
            · simp [*, go_sem]
            · simp [*, go_sem]
            · simp [*, go_sem]
            · simp [*, go_sem]
            · simp [*, go_sem]
            · simp [*, go_sem]
            · simp [*, go_sem]
            · simp [*, go_sem]
            · simp [*, go_sem]
            · simp [*, go_sem]
            · simp [*, go_sem]
            · simp [*, go_sem]
            · simp [*, go_sem]
            · simp [*, go_sem]
            · simp [*, go_sem]
            · simp [*, go_sem]
            · simp [*, go_sem]
            · simp [*, go_sem]
            · simp [*, go_sem]
            · simp [*, go_sem]
            · simp [*, go_sem]
            · simp [*, go_sem]
            · simp [*, go_sem]
            · simp [*, go_sem]
            · simp [*, go_sem]
            · simp [*, go_sem]
            · simp [*, go_sem]
            · intro o; simp [*, go_sem]
            · intro o; simp [*, go_sem]
          case measure => simp [intOf]; omega
      · obtain rfl : k = n := by omega
        go_wp2
        refine bodyPost_ret (by simp [results, Tryz.results52, go_sem, *] <;> rfl) rfl ?_
        refine ⟨by rw [hx.out, hy_.out, hsm.out, hsl.out, hsh.out], ?_⟩
        have hb_ := BR.out
        clear r0 r1 r2 r3 r4 r5 r6 r7 r8 r9 r10 r11 r12 r13 r14 r15 r16 r17 r18 g0 g1 g2 g3 g4 g5 g6 g7 g8 g9 g10 fR fC
        go_grown
end Go.Proofs.YtopggkomkfjbfaaGreat
