/- The events of a ray and the states behind them, by the reference. -/
import Derived.Test.YtopggkomkfjbfaaGreatTrace1
import Derived.Test.YtopggkomkfjbfaaGreatStep2
namespace Go.Proofs.YtopggkomkfjbfaaGreat
set_option linter.unusedSimpArgs false
set_option linter.unusedVariables false
open Go.RowKit

theorem OwnI.keep {w W : World} {base : Nat} {v : Value} {L : List Int} (h : OwnI w base v L) (k : Keep base w.heap.size w W) : OwnI W base v L := by
  obtain ⟨A, c, rfl, hc, ho⟩ := h
  exact ⟨A, c, rfl, hc, own_keep ho k⟩
theorem two_rows {w1 w2 : World} {base size : Nat} {e1 : TypeId} (hb : base ≤ w1.heap.size) (h : Below (w1.heap.size + 1 + 1) ((w1.alloc (.cells #[] e1)).alloc (.cells #[] 2)) w2) :
    OwnK w2 base e1 size (.slice (some ⟨w1.heap.size, 0, none⟩) 0 0) [] ∧ OwnI w2 base (.slice (some ⟨w1.heap.size + 1, 0, none⟩) 0 0) [] := by
  refine ⟨?_, ?_⟩
  · have h1 := OwnK.zero (w := w1) (base := base) (e := e1) (size := size) hb
    have h2 := h1.below (B := w1.heap.size + 1) (w1 := (w1.alloc (.cells #[] e1)).alloc (.cells #[] 2)) (by go_grown) (by simp)
    exact h2.below h (by simp)
  · have h1 := OwnI.zero (w := w1.alloc (.cells #[] e1)) (base := base) (by simp; omega)
    simp only [World.size_alloc] at h1
    exact h1.below h (by simp)

set_option maxHeartbeats 4000000 in
theorem specTrace_bad (A1 A2 : Option Addr) (c1 c2 : Nat) (ds ss : List Int) (src co si hy : Int) (n : Int) (w : World) (h : ProfAt w A1 c1 A2 c2 ds ss) (hb : ¬ (rayE ds ss src co si hy 0 = 0 ∧ inB n 0 100 = true)) :
    Calls Tryz.prog 76 #[profV A1 ds.length c1 A2 ss.length c2, .int .i64 src, dirV co si hy, .int .i64 n] w fun e w' => e = .returned (.tuple #[.slice none 0 0, .slice none 0 0, .int .i64 (if rayE ds ss src co si hy 0 = 0 then 2 else rayE ds ss src co si hy 0)]) ∧ Below w.heap.size w w' := by
  by_cases h0 : rayE ds ss src co si hy 0 = 0
  · have hn : inB n 0 100 = false := by
      rcases Bool.eq_false_or_eq_true (inB n 0 100) with e | e
      · exact absurd ⟨h0, e⟩ hb
      · exact e
    have hE : (rayE ds ss src co si hy 0 == 0) = true := by rw [h0]; rfl
    have hE2 : (rayE ds ss src co si hy 0 != 0) = false := by rw [h0]; rfl
    have H := Lib.hid h; have H0 := Lib.hid h0; clear h h0 hb
    go_enter Tryz.func76, Tryz.ntmps76
    go_wp2_with (first
      | (go_at_call 85; refine (l05Code_any _ _ _ _ _ _ _ _ _ _ _ _ ⟨(H.out.1.below (B := w.heap.size) (by first | exact Below.refl _ _ | (go_grown; done) | exact bdrewN (by go_grown) _) (Nat.le_refl _)), (H.out.2.below (B := w.heap.size) (by first | exact Below.refl _ _ | (go_grown; done) | exact bdrewN (by go_grown) _) (Nat.le_refl _))⟩).mono ?_; rintro e w1 ⟨rfl, hb1⟩; obtain ⟨B1, hz1, q1, s1, t1, x1, y1, z1⟩ := bkeep (w := w) [w.heap.size, w.heap.size + 1] (by first | (simp; done) | (simp; omega)) (by first | (go_grown; done) | exact bdrewN (by go_grown) _) hb1; (try simp at hz1); clear hb1)
      | (go_at_call 53; refine (l01In_any _ _ _ _).mono ?_; rintro e w' ⟨rfl, rfl⟩))
    refine bodyPost_ret (by simp [results, Tryz.results76, go_sem, *] <;> rfl) rfl ?_
    exact ⟨by first | rfl | (rw [if_pos H0.out]), (by first | with_reducible exact B1 | (go_grown; done) | with_reducible exact bdrewN B1 _ | (go_grown <;> first | with_reducible exact bdrewN B1 _ | with_reducible exact B1))⟩
  · have hE : (rayE ds ss src co si hy 0 == 0) = false := by simpa using h0
    have hE2 : (rayE ds ss src co si hy 0 != 0) = true := by simpa using h0
    have H := Lib.hid h; have H0 := Lib.hid h0; clear h h0 hb
    go_enter Tryz.func76, Tryz.ntmps76
    go_wp2_with (first
      | (go_at_call 85; refine (l05Code_any _ _ _ _ _ _ _ _ _ _ _ _ ⟨(H.out.1.below (B := w.heap.size) (by first | exact Below.refl _ _ | (go_grown; done) | exact bdrewN (by go_grown) _) (Nat.le_refl _)), (H.out.2.below (B := w.heap.size) (by first | exact Below.refl _ _ | (go_grown; done) | exact bdrewN (by go_grown) _) (Nat.le_refl _))⟩).mono ?_; rintro e w1 ⟨rfl, hb1⟩; obtain ⟨B1, hz1, q1, s1, t1, x1, y1, z1⟩ := bkeep (w := w) [w.heap.size, w.heap.size + 1] (by first | (simp; done) | (simp; omega)) (by first | (go_grown; done) | exact bdrewN (by go_grown) _) hb1; (try simp at hz1); clear hb1)
      | (go_at_call 53; refine (l01In_any _ _ _ _).mono ?_; rintro e w' ⟨rfl, rfl⟩))
    refine bodyPost_ret (by simp [results, Tryz.results76, go_sem, *] <;> rfl) rfl ?_
    exact ⟨by first | rfl | (rw [if_neg H0.out]), (by first | with_reducible exact B1 | (go_grown; done) | with_reducible exact bdrewN B1 _ | (go_grown <;> first | with_reducible exact bdrewN B1 _ | with_reducible exact B1))⟩

set_option maxHeartbeats 8000000 in
theorem specTrace_any (A1 A2 : Option Addr) (c1 c2 : Nat) (ds ss : List Int) (src co si hy : Int) (n : Nat) (w : World) (h : ProfAt w A1 c1 A2 c2 ds ss) (r : RayOk ds ss src co si hy) (hn : n ≤ 100) :
    Calls Tryz.prog 76 #[profV A1 ds.length c1 A2 ss.length c2, .int .i64 src, dirV co si hy, .int .i64 n] w fun e w' =>
      ((rsC ds ss src co hy (rs0 src si) n = 0 ∧ ∃ As cs Ae ce, e = .returned (.tuple #[.slice As n cs, .slice Ae n ce, .int .i64 0]) ∧
          ResK w' w.heap.size w'.heap.size As cs 4 ((trS ds ss src co hy (rs0 src si) n).map rsCell) ∧ ResI w' w.heap.size w'.heap.size Ae ce (trE ds ss src co hy (rs0 src si) n)) ∨
       (rsC ds ss src co hy (rs0 src si) n ≠ 0 ∧ e = .returned (.tuple #[.slice none 0 0, .slice none 0 0, .int .i64 (rsC ds ss src co hy (rs0 src si) n)]))) ∧ Below w.heap.size w w' := by
  have hF := rs_first r
  have h0 : rayE ds ss src co si hy 0 = 0 := rayE_zero (k := 0) r
  have hE : (rayE ds ss src co si hy 0 == 0) = true := by rw [h0]; rfl
  have hE2 : (rayE ds ss src co si hy 0 != 0) = false := by rw [h0]; rfl
  have hin : inB n 0 100 = true := by simp [inB]; omega
  have H := Lib.hid h; have R := Lib.hid r; have HF := Lib.hid hF; clear h r hF h0
  go_enter Tryz.func76, Tryz.ntmps76
  go_upto_region 8 with (first
    | ((go_at_call 85; refine (l05Code_any _ _ _ _ _ _ _ _ _ _ _ _ ⟨(H.out.1.below (B := w.heap.size) (by first | exact Below.refl _ _ | (go_grown; done) | exact bdrewN (by go_grown) _) (Nat.le_refl _)), (H.out.2.below (B := w.heap.size) (by first | exact Below.refl _ _ | (go_grown; done) | exact bdrewN (by go_grown) _) (Nat.le_refl _))⟩).mono ?_; rintro e w1 ⟨rfl, hb1⟩; obtain ⟨B1, hz1, q1, s1, t1, x1, y1, z1⟩ := bkeep (w := w) [w.heap.size, w.heap.size + 1] (by first | (simp; done) | (simp; omega)) (by first | (go_grown; done) | exact bdrewN (by go_grown) _) hb1; (try simp at hz1); clear hb1); have la1_0 : w.heap.size < w1.heap.size := x1 (w.heap.size) (by simp); have lb1_0 : w.heap.size < w1.heap.size + 1 := Nat.lt_succ_of_lt la1_0; have na1_0 : w.heap.size ≠ w1.heap.size := Nat.ne_of_lt la1_0; have nc1_0 : w.heap.size ≠ w1.heap.size + 1 := Nat.ne_of_lt lb1_0; have la1_1 : w.heap.size + 1 < w1.heap.size := x1 (w.heap.size + 1) (by simp); have lb1_1 : w.heap.size + 1 < w1.heap.size + 1 := Nat.lt_succ_of_lt la1_1; have na1_1 : w.heap.size + 1 ≠ w1.heap.size := Nat.ne_of_lt la1_1; have nc1_1 : w.heap.size + 1 ≠ w1.heap.size + 1 := Nat.ne_of_lt lb1_1)
    | (go_at_call 53; refine (l01In_any _ _ _ _).mono ?_; rintro e w' ⟨rfl, rfl⟩)
    | (go_at_call 71; refine (l07First_any _ _ _ _ _).mono ?_; rintro e w2 ⟨rfl, hb2⟩; have T2 := Lib.hid (two_rows (base := w.heap.size + 1 + 1) (size := 4) (by first | omega | (have := x1 (w.heap.size + 1) (by simp); omega)) (by simpa using hb2)); obtain ⟨B2, hz2, q2, s2, t2, x2, y2, z2⟩ := bkeep (w := w) [w.heap.size, w.heap.size + 1, w1.heap.size, w1.heap.size+1] (by first | (simp; done) | (simp; omega)) (by first | (go_grown; done) | exact bdrewN (by go_grown) _) hb2; (try simp at hz2); clear hb2))
  refine genS (S := fun w' => Below w.heap.size w w' ∧ w.heap.size + 1 < w1.heap.size ∧ w1.heap.size + 1 < w2.heap.size ∧ w2.heap.size < w'.heap.size ∧ w'.cell? ⟨w.heap.size, 0, none⟩ = some (.slice A1 ds.length c1) ∧ w'.cell? ⟨w.heap.size, 1, none⟩ = some (.slice A2 ss.length c2) ∧ w'.cell? ⟨w.heap.size + 1, 0, none⟩ = some (.int .i64 co) ∧ w'.cell? ⟨w.heap.size + 1, 1, none⟩ = some (.int .i64 si) ∧ w'.cell? ⟨w.heap.size + 1, 2, none⟩ = some (.int .i64 hy) ∧ w'.cell? ⟨w2.heap.size, 0, none⟩ = some (.int .i64 src) ∧ w'.cell? ⟨w2.heap.size, 1, none⟩ = some (.bool (decide (0 < si))) ∧ w'.cell? ⟨w2.heap.size, 2, none⟩ = some (.int .i64 0) ∧ w'.cell? ⟨w2.heap.size, 3, none⟩ = some (.int .i64 0) ∧ (∀ o, w'.frozen? ⟨w2.heap.size, o, none⟩ = false) ∧ OwnK w' (w.heap.size + 1 + 1) 46 4 (.slice (some ⟨w1.heap.size, 0, none⟩) 0 0) [] ∧ OwnI w' (w.heap.size + 1 + 1) (.slice (some ⟨w1.heap.size + 1, 0, none⟩) 0 0) []) ⟨(by first | with_reducible exact B2 | (go_grown; done) | with_reducible exact bdrewN B2 _ | (go_grown <;> first | with_reducible exact bdrewN B2 _ | with_reducible exact B2)), by first | omega | (have := x1 (w.heap.size + 1) (by simp); omega), by first | omega | (have := x2 (w1.heap.size + 1) (by simp); omega) | (simp at *; omega), by first | omega | (simp; done) | (simp; omega), by simp [*, go_sem], by simp [*, go_sem], by simp [*, go_sem], by simp [*, go_sem], by simp [*, go_sem], by simp [*, go_sem], by simp [*, go_sem], by simp [*, go_sem], by simp [*, go_sem], fun o => by simp [*, go_sem], OwnK.keep T2.out.1 (by repeat' (first | with_reducible exact Keep.refl _ _ _ | refine Keep.setB ?_ ?_ _ | refine Keep.alloc ?_ ?_ _ | refine Keep.drew ?_ | omega | (simp; done) | (simp; omega))), OwnI.keep T2.out.2 (by repeat' (first | with_reducible exact Keep.refl _ _ _ | refine Keep.setB ?_ ?_ _ | refine Keep.alloc ?_ ?_ _ | refine Keep.drew ?_ | omega | (simp; done) | (simp; omega)))⟩ ?_
  rintro w3 ⟨B3, l3a, l3b, l3c, c3_0, c3_1, c3_2, c3_3, c3_4, c3_5, c3_6, c3_7, c3_8, f3, OS, OE⟩
  clear q1 s1 t1 x1 y1 q2 s2 t2 x2 y2 B2 B1 T2 la1_0 lb1_0 na1_0 nc1_0 la1_1 lb1_1 na1_1 nc1_1
  have HB := Lib.hid B3; clear B3
  have HOS := Lib.hid OS; have HOE := Lib.hid OE; clear OS OE
  go_wp2
  go_loopw [12, 13, 15] (fun v1 v2 i wr => ∃ (k : Nat) (xk : Int) (xd : Bool) (xl xh : Int), k ≤ n ∧ i = .int .i64 k ∧ Hid (rsAt ds ss src co hy (rs0 src si) k = ⟨xk, xd, xl, xh⟩) ∧ Hid (rsC ds ss src co hy (rs0 src si) k = 0) ∧ Below (w.heap.size + 1 + 1) w3 wr ∧ w2.heap.size < wr.heap.size ∧ wr.cell? ⟨w2.heap.size, 0, none⟩ = some (.int .i64 xk) ∧ wr.cell? ⟨w2.heap.size, 1, none⟩ = some (.bool xd) ∧ wr.cell? ⟨w2.heap.size, 2, none⟩ = some (.int .i64 xl) ∧ wr.cell? ⟨w2.heap.size, 3, none⟩ = some (.int .i64 xh) ∧ (∀ o, wr.frozen? ⟨w2.heap.size, o, none⟩ = false) ∧ OwnK wr (w.heap.size + 1 + 1) 46 4 v1 ((trS ds ss src co hy (rs0 src si) k).map rsCell) ∧ OwnI wr (w.heap.size + 1 + 1) v2 (trE ds ss src co hy (rs0 src si) k) ∧ Hid (v1.ownBlock ≠ some w2.heap.size) ∧ Hid (v2.ownBlock ≠ some w2.heap.size)) (fun _ _ i _ => n - (intOf i).toNat)
  case atStart => exact ⟨0, src, decide (0 < si), 0, 0, by omega, rfl, Lib.hid rfl, Lib.hid rfl, Below.refl _ _, l3c, c3_5, c3_6, c3_7, c3_8, f3, HOS.out, HOE.out, Lib.hid (by simp [Value.ownBlock]; omega), Lib.hid (by simp [Value.ownBlock]; omega)⟩
  case round =>
    obtain ⟨k, xk, xd, xl, xh, hk, rfl, hx, hc0, Br, lx, X0, X1, X2, X3, fx, ⟨A5, c5, rfl, hc5, hO1, hL1⟩, ⟨A4, c4, rfl, hc4, hO2⟩, N1, N2⟩ := hrel
    simp only [List.length_map, trE_len, trS_len] at hO1 hO2 N1 N2 ⊢
    have O1 := Lib.hid hO1; have O2 := Lib.hid hO2; have L1 := Lib.hid hL1; clear hO1 hO2 hL1
    have sr : w3.heap.size ≤ wr.heap.size := Br.size
    have HBr := Lib.hid Br
    have HP := Lib.hid (H.out.below (HB.out.trans (Br.mono (by omega))) (Nat.le_refl _))
    have r0_0 := (bAt Br (b := w.heap.size) (o := 0) (by omega)).trans c3_0
    have r0_1 := (bAt Br (b := w.heap.size) (o := 1) (by omega)).trans c3_1
    have r1_0 := (bAt Br (b := w.heap.size + 1) (o := 0) (by omega)).trans c3_2
    have r1_1 := (bAt Br (b := w.heap.size + 1) (o := 1) (by omega)).trans c3_3
    have r1_2 := (bAt Br (b := w.heap.size + 1) (o := 2) (by omega)).trans c3_4
    clear c3_0 c3_1 c3_2 c3_3 c3_4 c3_5 c3_6 c3_7 c3_8 f3 Br
    by_cases hlt : (k : Int) < n
    · have hok := rs_at R.out HF.out k hc0.out
      have e_ : rsAt ds ss src co hy ⟨src, decide (0 < si), 0, 0⟩ k = ⟨xk, xd, xl, xh⟩ := hx.out
      rw [e_] at hok
      obtain ⟨k0, k1, hcn, b0, b1, b2, b3⟩ := hok
      simp only at k0 k1 hcn b0 b1 b2 b3
      have HC := Lib.hid hcn; clear hcn e_
      by_cases he : stE ds ss src co hy xk xd xl xh = 0
      · have hE : (stE ds ss src co hy xk xd xl xh != 0) = false := by rw [he]; rfl
        have hE2 : (stE ds ss src co hy xk xd xl xh == 0) = true := by rw [he]; rfl
        have HE := Lib.hid he; clear he
        have hW1 := O1.out.lt; have hW2 := O2.out.lt
        have W1 := Lib.hid hW1; have W2 := Lib.hid hW2; clear hW1 hW2
        go_upto_region 15 with ((go_at_call 72; refine (specStep_any _ _ _ _ _ _ _ _ _ _ _ _ _ _ _ ⟨(HP.out.1.below (B := wr.heap.size) (by first | exact Below.refl _ _ | (go_grown; done) | exact bdrewN (by go_grown) _) (Nat.le_refl _)), (HP.out.2.below (B := wr.heap.size) (by first | exact Below.refl _ _ | (go_grown; done) | exact bdrewN (by go_grown) _) (Nat.le_refl _))⟩ R.out k0 k1 HC.out b0 b1 b2 b3).mono ?_; rintro e w4 ⟨rfl, hb4⟩; obtain ⟨B4, hz4, q4, s4, t4, x4, y4, z4⟩ := bkeep (w := wr) [w.heap.size, w.heap.size + 1, w2.heap.size] (by first | (simp; done) | (simp; omega)) (by first | (go_grown; done) | exact bdrewN (by go_grown) _) hb4; (try simp at hz4); clear hb4); have K4 := KeepX.of_below (lo := w.heap.size + 1 + 1) (xb := w2.heap.size) B4; have la4_0 : w.heap.size < w4.heap.size := x4 (w.heap.size) (by simp); have lb4_0 : w.heap.size < w4.heap.size + 1 := Nat.lt_succ_of_lt la4_0; have na4_0 : w.heap.size ≠ w4.heap.size := Nat.ne_of_lt la4_0; have nc4_0 : w.heap.size ≠ w4.heap.size + 1 := Nat.ne_of_lt lb4_0; have la4_1 : w.heap.size + 1 < w4.heap.size := x4 (w.heap.size + 1) (by simp); have lb4_1 : w.heap.size + 1 < w4.heap.size + 1 := Nat.lt_succ_of_lt la4_1; have na4_1 : w.heap.size + 1 ≠ w4.heap.size := Nat.ne_of_lt la4_1; have nc4_1 : w.heap.size + 1 ≠ w4.heap.size + 1 := Nat.ne_of_lt lb4_1; have la4_2 : w2.heap.size < w4.heap.size := x4 (w2.heap.size) (by simp); have lb4_2 : w2.heap.size < w4.heap.size + 1 := Nat.lt_succ_of_lt la4_2; have na4_2 : w2.heap.size ≠ w4.heap.size := Nat.ne_of_lt la4_2; have nc4_2 : w2.heap.size ≠ w4.heap.size + 1 := Nat.ne_of_lt lb4_2)
        have C4 := HBr.out.trans (B4.mono (by omega))
        have lw4 : wr.heap.size ≤ w4.heap.size := by omega
        refine genS (S := fun w' => Below (w.heap.size + 1 + 1) w3 w' ∧ w2.heap.size < w'.heap.size ∧ wr.heap.size ≤ w'.heap.size ∧ w'.cell? ⟨w2.heap.size, 0, none⟩ = some (.int .i64 (stK ds ss src co hy xk xd xl xh)) ∧ w'.cell? ⟨w2.heap.size, 1, none⟩ = some (.bool (stD ds ss src co hy xk xd xl xh)) ∧ w'.cell? ⟨w2.heap.size, 2, none⟩ = some (.int .i64 (stL ds ss src co hy xk xd xl xh)) ∧ w'.cell? ⟨w2.heap.size, 3, none⟩ = some (.int .i64 (stH ds ss src co hy xk xd xl xh)) ∧ (∀ o, w'.frozen? ⟨w2.heap.size, o, none⟩ = false) ∧ w'.ownsRow (w.heap.size + 1 + 1) 46 4 (.slice A5 k c5) k (((trS ds ss src co hy (rs0 src si) k).map rsCell).flatten) ∧ w'.ownsRow (w.heap.size + 1 + 1) 2 1 (.slice A4 k c4) k ((trE ds ss src co hy (rs0 src si) k).map (.int .i64)) ∧ (.slice A5 k c5 : Value).ownBlock ≠ some w2.heap.size ∧ (.slice A4 k c4 : Value).ownBlock ≠ some w2.heap.size) ⟨by first | exact C4 | (go_grown; done), by first | omega | (simp; done) | (simp; omega), by first | omega | (simp; done) | (simp; omega), by simp [*, go_sem], by simp [*, go_sem], by simp [*, go_sem], by simp [*, go_sem], fun o => by simp [*, go_sem], own_keepX O1.out N1.out (by repeat' (first | with_reducible exact KeepX.refl _ _ _ _ | with_reducible exact K4 | refine KeepX.setB ?_ ?_ _ | refine KeepX.alloc ?_ ?_ _ | refine KeepX.drew ?_ | omega | (simp; done) | (simp; omega))), own_keepX O2.out N2.out (by repeat' (first | with_reducible exact KeepX.refl _ _ _ _ | with_reducible exact K4 | refine KeepX.setB ?_ ?_ _ | refine KeepX.alloc ?_ ?_ _ | refine KeepX.drew ?_ | omega | (simp; done) | (simp; omega))), N1.out, N2.out⟩ ?_
        clear r0_0 r0_1 r1_0 r1_1 r1_2 X0 X1 X2 X3 fx q4 s4 t4 x4 y4 C4 B4 hz4 z4 la4_0 lb4_0 na4_0 nc4_0 la4_1 lb4_1 na4_1 nc4_1 la4_2 lb4_2 na4_2 nc4_2
        rintro wa ⟨Ba, la, ma, ax0, ax1, ax2, ax3, afx, ao0, ao1, ao2, ao3⟩
        have aO0 := Lib.hid ao0; clear ao0
        have aO1 := Lib.hid ao1; clear ao1
        have aO2 := Lib.hid ao2; clear ao2
        have aO3 := Lib.hid ao3; clear ao3
        have HBa := Lib.hid Ba; clear Ba
        go_upto_region 16 with (at_builtin; refine appG rfl _ _ 77 rfl (w.heap.size + 1 + 1) 46 (.agg #[.int .i64 0, .bool false, .int .i64 0, .int .i64 0]) 4 32 Tryz.underlying77 infoS rfl (by omega) (rsCell ⟨stK ds ss src co hy xk xd xl xh, stD ds ss src co hy xk xd xl xh, stL ds ss src co hy xk xd xl xh, stH ds ss src co hy xk xd xl xh⟩) rfl (by intro u hu; simp [rsCell, ivCell] at hu; rcases hu with rfl | rfl | rfl | rfl <;> rfl) _ _ _ rfl _ rfl (own_keepX aO0.out aO2.out (by repeat' (first | with_reducible exact KeepX.refl _ _ _ _ | with_reducible exact K4 | refine KeepX.setB ?_ ?_ _ | refine KeepX.alloc ?_ ?_ _ | refine KeepX.drew ?_ | omega | (simp; done) | (simp; omega)))) ?_ ?_ ?_ ?_ ?_; (focus (intro j u hj; match j, hj with | 0, hj => (simp [rsCell, ivCell] at hj; subst hj; simp [*, go_sem]) | 1, hj => (simp [rsCell, ivCell] at hj; subst hj; simp [*, go_sem]) | 2, hj => (simp [rsCell, ivCell] at hj; subst hj; simp [*, go_sem]) | 3, hj => (simp [rsCell, ivCell] at hj; subst hj; simp [*, go_sem]) | j + 4, hj => simp [rsCell, ivCell] at hj)); (focus (unfold maxLen; omega)); (focus omega); (focus (first | omega | (simp; omega))); intro v5 w5 hown5 hg5 hat5; obtain ⟨A15, c15, rfl, hc15⟩ := owns_form hown5; have NN5 := Lib.hid (ne_hat hat5 aO2.out (by first | omega | (simp; omega))); clear hat5; obtain ⟨z5, q5, s5, x5, y5⟩ := gkeepX (lo := w.heap.size + 1 + 1) (hi := wr.heap.size) (xb := w2.heap.size) [w.heap.size, w.heap.size + 1, w2.heap.size] (fun b hb => by have h1 := W1.out b; have h2 := N1.out; first | exact ⟨(h1 hb).1, (h1 hb).2, fun e_ => h2 (by rw [← e_]; exact hb)⟩ | skip) (by first | (simp; done) | (simp; omega)) hg5; have M5_1 := Lib.hid ((own_keepX aO1.out aO3.out (by repeat' (first | with_reducible exact KeepX.refl _ _ _ _ | with_reducible exact K4 | refine KeepX.setB ?_ ?_ _ | refine KeepX.alloc ?_ ?_ _ | refine KeepX.drew ?_ | omega | (simp; done) | (simp; omega)))).kept hg5 (own_ne (own_keepX aO0.out aO2.out (by repeat' (first | with_reducible exact KeepX.refl _ _ _ _ | with_reducible exact K4 | refine KeepX.setB ?_ ?_ _ | refine KeepX.alloc ?_ ?_ _ | refine KeepX.drew ?_ | omega | (simp; done) | (simp; omega)))) (own_keepX aO1.out aO3.out (by repeat' (first | with_reducible exact KeepX.refl _ _ _ _ | with_reducible exact K4 | refine KeepX.setB ?_ ?_ _ | refine KeepX.alloc ?_ ?_ _ | refine KeepX.drew ?_ | omega | (simp; done) | (simp; omega)))) (by decide))); have M5_0 := Lib.hid hown5; clear hown5; have C5 := Below.grow (B := w.heap.size + 1 + 1) (w0 := w3) (by first | exact HBa.out | (have hb_ := HBa.out; go_grown; done)) hg5 (fun b hb => by have := W1.out b hb; omega) (by first | omega | (simp; omega)); (try simp only [World.size_alloc, World.size_drew, size_set] at z5); clear hg5)
        refine genS (S := fun w' => Below (w.heap.size + 1 + 1) w3 w' ∧ w2.heap.size < w'.heap.size ∧ wr.heap.size ≤ w'.heap.size ∧ w'.cell? ⟨w2.heap.size, 0, none⟩ = some (.int .i64 (stK ds ss src co hy xk xd xl xh)) ∧ w'.cell? ⟨w2.heap.size, 1, none⟩ = some (.bool (stD ds ss src co hy xk xd xl xh)) ∧ w'.cell? ⟨w2.heap.size, 2, none⟩ = some (.int .i64 (stL ds ss src co hy xk xd xl xh)) ∧ w'.cell? ⟨w2.heap.size, 3, none⟩ = some (.int .i64 (stH ds ss src co hy xk xd xl xh)) ∧ (∀ o, w'.frozen? ⟨w2.heap.size, o, none⟩ = false) ∧ w'.ownsRow (w.heap.size + 1 + 1) 46 4 (.slice A15 (k + 1) c15) (k + 1) (((trS ds ss src co hy (rs0 src si) k).map rsCell).flatten ++ (rsCell ⟨stK ds ss src co hy xk xd xl xh, stD ds ss src co hy xk xd xl xh, stL ds ss src co hy xk xd xl xh, stH ds ss src co hy xk xd xl xh⟩)) ∧ w'.ownsRow (w.heap.size + 1 + 1) 2 1 (.slice A4 k c4) k ((trE ds ss src co hy (rs0 src si) k).map (.int .i64)) ∧ (.slice A15 (k + 1) c15 : Value).ownBlock ≠ some w2.heap.size ∧ (.slice A4 k c4 : Value).ownBlock ≠ some w2.heap.size) ⟨by first | exact C5 | (go_grown; done), by first | omega | (simp; done) | (simp; omega), by first | omega | (simp; done) | (simp; omega), by simp [*, go_sem], by simp [*, go_sem], by simp [*, go_sem], by simp [*, go_sem], fun o => by simp [*, go_sem], own_keepX M5_0.out NN5.out (by repeat' (first | with_reducible exact KeepX.refl _ _ _ _ | with_reducible exact K4 | refine KeepX.setB ?_ ?_ _ | refine KeepX.alloc ?_ ?_ _ | refine KeepX.drew ?_ | omega | (simp; done) | (simp; omega))), own_keepX M5_1.out aO3.out (by repeat' (first | with_reducible exact KeepX.refl _ _ _ _ | with_reducible exact K4 | refine KeepX.setB ?_ ?_ _ | refine KeepX.alloc ?_ ?_ _ | refine KeepX.drew ?_ | omega | (simp; done) | (simp; omega))), NN5.out, aO3.out⟩ ?_
        clear q5 s5 x5 y5 C5 ax0 ax1 ax2 ax3 afx
        rintro wb ⟨Bb, lb, mb, bx0, bx1, bx2, bx3, bfx, bo0, bo1, bo2, bo3⟩
        have bO0 := Lib.hid bo0; clear bo0
        have bO1 := Lib.hid bo1; clear bo1
        have bO2 := Lib.hid bo2; clear bo2
        have bO3 := Lib.hid bo3; clear bo3
        have HBb := Lib.hid Bb; clear Bb
        clear aO0 aO1 aO2 aO3 M5_0 M5_1 NN5 la ma HBa
        go_wp2_with (at_builtin; refine appG rfl _ _ 24 rfl (w.heap.size + 1 + 1) 2 (.int .i64 0) 1 8 Tryz.underlying24 infoInt2 rfl (by omega) [.int .i64 (stV ds ss src co hy xk xd xl xh)] rfl (by intro u hu; simp [rsCell, ivCell] at hu; rcases hu with rfl <;> rfl) _ _ _ rfl _ rfl (own_keepX bO1.out bO3.out (by repeat' (first | with_reducible exact KeepX.refl _ _ _ _ | with_reducible exact K4 | refine KeepX.setB ?_ ?_ _ | refine KeepX.alloc ?_ ?_ _ | refine KeepX.drew ?_ | omega | (simp; done) | (simp; omega)))) ?_ ?_ ?_ ?_ ?_; (focus (intro j u hj; match j, hj with | 0, hj => (simp [rsCell, ivCell] at hj; subst hj; simp [*, go_sem]) | j + 1, hj => simp [rsCell, ivCell] at hj)); (focus (unfold maxLen; omega)); (focus omega); (focus (first | omega | (simp; omega))); intro v6 w6 hown6 hg6 hat6; obtain ⟨A16, c16, rfl, hc16⟩ := owns_form hown6; have NN6 := Lib.hid (ne_hat hat6 bO3.out (by first | omega | (simp; omega))); clear hat6; obtain ⟨z6, q6, s6, x6, y6⟩ := gkeepX (lo := w.heap.size + 1 + 1) (hi := wr.heap.size) (xb := w2.heap.size) [w.heap.size, w.heap.size + 1, w2.heap.size] (fun b hb => by have h1 := W2.out b; have h2 := N2.out; first | exact ⟨(h1 hb).1, (h1 hb).2, fun e_ => h2 (by rw [← e_]; exact hb)⟩ | skip) (by first | (simp; done) | (simp; omega)) hg6; have M6_0 := Lib.hid ((own_keepX bO0.out bO2.out (by repeat' (first | with_reducible exact KeepX.refl _ _ _ _ | with_reducible exact K4 | refine KeepX.setB ?_ ?_ _ | refine KeepX.alloc ?_ ?_ _ | refine KeepX.drew ?_ | omega | (simp; done) | (simp; omega)))).kept hg6 (own_ne (own_keepX bO1.out bO3.out (by repeat' (first | with_reducible exact KeepX.refl _ _ _ _ | with_reducible exact K4 | refine KeepX.setB ?_ ?_ _ | refine KeepX.alloc ?_ ?_ _ | refine KeepX.drew ?_ | omega | (simp; done) | (simp; omega)))) (own_keepX bO0.out bO2.out (by repeat' (first | with_reducible exact KeepX.refl _ _ _ _ | with_reducible exact K4 | refine KeepX.setB ?_ ?_ _ | refine KeepX.alloc ?_ ?_ _ | refine KeepX.drew ?_ | omega | (simp; done) | (simp; omega)))) (by decide))); have M6_1 := Lib.hid hown6; clear hown6; have C6 := Below.grow (B := w.heap.size + 1 + 1) (w0 := w3) (by first | exact HBb.out | (have hb_ := HBb.out; go_grown; done)) hg6 (fun b hb => by have := W2.out b hb; omega) (by first | omega | (simp; omega)); (try simp only [World.size_alloc, World.size_drew, size_set] at z6); clear hg6)
        go_roundw
        case rel =>
          have hx1 := x6 (w2.heap.size) (by simp)
          exact ⟨k + 1, stK ds ss src co hy xk xd xl xh, stD ds ss src co hy xk xd xl xh, stL ds ss src co hy xk xd xl xh, stH ds ss src co hy xk xd xl xh, by omega, by first | done | go_num | rfl, Lib.hid (by rw [rsAt, hx.out]; rfl), Lib.hid (by rw [rsC_step hc0.out, hx.out]; exact HE.out), by first | exact C6 | (go_grown; done), by first | omega | (simp; omega), by simp [*, go_sem], by simp [*, go_sem], by simp [*, go_sem], by simp [*, go_sem], fun o => by simp [*, go_sem],
            OwnK.next (els := (trS ds ss src co hy (rs0 src si) k).map rsCell) (by rw [trS, List.map_append, rsAt, hx.out]; rfl) (by rw [List.length_map, trS_len]; exact own_keepX M6_0.out bO2.out (by repeat' (first | with_reducible exact KeepX.refl _ _ _ _ | with_reducible exact K4 | refine KeepX.setB ?_ ?_ _ | refine KeepX.alloc ?_ ?_ _ | refine KeepX.drew ?_ | omega | (simp; done) | (simp; omega)))) L1.out rfl, OwnI.next (L := trE ds ss src co hy (rs0 src si) k) (by rw [trE, hx.out] <;> rfl) (by rw [trE_len]; exact own_keepX M6_1.out NN6.out (by repeat' (first | with_reducible exact KeepX.refl _ _ _ _ | with_reducible exact K4 | refine KeepX.setB ?_ ?_ _ | refine KeepX.alloc ?_ ?_ _ | refine KeepX.drew ?_ | omega | (simp; done) | (simp; omega)))), Lib.hid bO2.out, Lib.hid NN6.out⟩
        case measure => simp [intOf]; omega
      · have hE : (stE ds ss src co hy xk xd xl xh != 0) = true := by simpa using he
        have hE2 : (stE ds ss src co hy xk xd xl xh == 0) = false := by simpa using he
        have HS : Hid (rsC ds ss src co hy (rs0 src si) n = stE ds ss src co hy xk xd xl xh) := by
          have e1 := rsC_stop hc0.out (by rw [hx.out]; exact he) n (by omega)
          rw [hx.out] at e1
          exact Lib.hid e1
        have HE := Lib.hid he; clear he
        go_wp2_with ((go_at_call 72; refine (specStep_any _ _ _ _ _ _ _ _ _ _ _ _ _ _ _ ⟨(HP.out.1.below (B := wr.heap.size) (by first | exact Below.refl _ _ | (go_grown; done) | exact bdrewN (by go_grown) _) (Nat.le_refl _)), (HP.out.2.below (B := wr.heap.size) (by first | exact Below.refl _ _ | (go_grown; done) | exact bdrewN (by go_grown) _) (Nat.le_refl _))⟩ R.out k0 k1 HC.out b0 b1 b2 b3).mono ?_; rintro e w4 ⟨rfl, hb4⟩; obtain ⟨B4, hz4, q4, s4, t4, x4, y4, z4⟩ := bkeep (w := wr) [w.heap.size, w.heap.size + 1, w2.heap.size] (by first | (simp; done) | (simp; omega)) (by first | (go_grown; done) | exact bdrewN (by go_grown) _) hb4; (try simp at hz4); clear hb4); have D3 := HB.out.trans ((show Below w.heap.size w3 wr from HBr.out.mono (by omega)).trans (B4.mono (by omega))); have la4_0 : w.heap.size < w4.heap.size := x4 (w.heap.size) (by simp); have lb4_0 : w.heap.size < w4.heap.size + 1 := Nat.lt_succ_of_lt la4_0; have na4_0 : w.heap.size ≠ w4.heap.size := Nat.ne_of_lt la4_0; have nc4_0 : w.heap.size ≠ w4.heap.size + 1 := Nat.ne_of_lt lb4_0; have la4_1 : w.heap.size + 1 < w4.heap.size := x4 (w.heap.size + 1) (by simp); have lb4_1 : w.heap.size + 1 < w4.heap.size + 1 := Nat.lt_succ_of_lt la4_1; have na4_1 : w.heap.size + 1 ≠ w4.heap.size := Nat.ne_of_lt la4_1; have nc4_1 : w.heap.size + 1 ≠ w4.heap.size + 1 := Nat.ne_of_lt lb4_1; have la4_2 : w2.heap.size < w4.heap.size := x4 (w2.heap.size) (by simp); have lb4_2 : w2.heap.size < w4.heap.size + 1 := Nat.lt_succ_of_lt la4_2; have na4_2 : w2.heap.size ≠ w4.heap.size := Nat.ne_of_lt la4_2; have nc4_2 : w2.heap.size ≠ w4.heap.size + 1 := Nat.ne_of_lt lb4_2)
        refine bodyPost_ret (by simp [results, Tryz.results76, go_sem, *] <;> rfl) rfl ?_
        exact ⟨.inr ⟨by rw [HS.out]; exact HE.out, by rw [HS.out]⟩, by go_grown⟩
    · obtain rfl : k = n := by omega
      have D3 := HB.out.trans (show Below w.heap.size w3 wr from HBr.out.mono (by omega))
      have E1 := Lib.hid (OwnK.res (w := wr) (base := w.heap.size + 1 + 1) (n := k) (e := 46) (size := 4) (els := (trS ds ss src co hy (rs0 src si) k).map rsCell) ⟨A5, c5, by rw [List.length_map, trS_len], hc5, by rw [List.length_map, trS_len]; exact O1.out, L1.out⟩).2
      have E2 := Lib.hid (OwnI.res (w := wr) (base := w.heap.size + 1 + 1) (n := k) (L := trE ds ss src co hy (rs0 src si) k) ⟨A4, c4, by rw [trE_len], hc4, by rw [trE_len]; exact O2.out⟩)
      go_wp2
      refine bodyPost_ret (by simp [results, Tryz.results76, go_sem, *] <;> rfl) rfl ?_
      exact ⟨.inl ⟨hc0.out, A5, c5, A4, c4, rfl, E1.out.mono (by omega) (Nat.le_refl _), E2.out.mono (by omega) (Nat.le_refl _)⟩, by first | exact D3 | go_grown⟩
end Go.Proofs.YtopggkomkfjbfaaGreat
