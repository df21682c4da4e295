/- The verdict on a cell, by the program and by the reference. -/
import Derived.Test.YtopggkomkfjbfaaGreatCellP
import Derived.Test.YtopggkomkfjbfaaGreatNewCell
import Derived.Test.YtopggkomkfjbfaaGreatCell1
import Derived.Deep.RegionHeld3
import Derived.BigRegion
namespace Go.Proofs.YtopggkomkfjbfaaGreat
set_option linter.unusedSimpArgs false
set_option linter.unusedVariables false
open Go.RowKit

set_option maxHeartbeats 1000000 in
theorem contains_any (a b x : Int) (w : World) :
    Calls Tryz.prog 47 #[ivV a b, .int .i64 x] w fun e w' => e = .returned (.bool (inB x a b)) ∧ Below w.heap.size w w' := by
  go_enter Tryz.func47, Tryz.ntmps47
  go_wp2_with (go_at_call 25; refine (within_any _ _ _ _).mono ?_; rintro e w' ⟨rfl, rfl⟩)
  all_goals go_ret
  all_goals exact ⟨ret_bool (by unfold inB; first | rfl | simp [*] | (simp; omega)), by go_grown⟩
theorem rs_cell (x : Rs) : ∃ k d lo hi, x = ⟨k, d, lo, hi⟩ := ⟨x.k, x.d, x.lo, x.hi, rfl⟩
set_option maxRecDepth 4000 in
set_option maxHeartbeats 4000000 in
theorem cellLast0_any (A1 A2 : Option Addr) (c1 c2 : Nat) (ds ss : List Int) (src co si hy co' si' hy' : Int) (n : Nat) (cb : Nat) (As Bs : Option Addr) (cs cs' : Nat) (w : World) (F : CellF w cb A1 A2 c1 c2 ds ss src co si hy co' si' hy' n As Bs cs cs') (r : RayOk ds ss src co si hy) (hn : n ≤ 100) (k : Int) (d : Bool) (lo hi : Int) (hx : rwAt ds ss src co si hy n = ⟨k, d, lo, hi⟩) :
    Calls Tryz.prog 46 #[.pointer (some ⟨cb, 0, none⟩), .int .i64 0] w fun e w' => e = .returned (rsV k d lo hi) ∧ Below w.heap.size w w' := by
  obtain ⟨Ae, Ad, ce, cd, f0, f1, f2, f3, f4, f5, f6, f7, f8⟩ := F.a
  have lcb := F.lt; have hS := F.s1; clear F
  rcases n with _ | m
  · simp only [rwAt, sumN, kdAt, Rs.mk.injEq] at hx
    obtain ⟨rfl, rfl, rfl, rfl⟩ := hx
    clear hS r
    go_enter Tryz.func46, Tryz.ntmps46
    go_upto_region 1 with fail
    go_region_held3 (fun w' => w'.cell? ⟨cb, 0, none⟩ = some (.slice A1 ds.length c1) ∧ w'.cell? ⟨cb, 1, none⟩ = some (.slice A2 ss.length c2) ∧ w'.cell? ⟨cb, 2, none⟩ = some (.int .i64 src) ∧ w'.cell? ⟨cb, 3, none⟩ = some (.int .i64 co) ∧ w'.cell? ⟨cb, 4, none⟩ = some (.int .i64 si) ∧ w'.cell? ⟨cb, 5, none⟩ = some (.int .i64 hy) ∧ w'.cell? ⟨cb, 12, none⟩ = some (.slice Ae 0 ce) ∧ w'.cell? ⟨cb, 13, none⟩ = some (.slice As 0 cs) ∧ w'.cell? ⟨cb, 14, none⟩ = some (.slice Ad 0 cd)) (first | (go_keep; done) | (simp [*, go_sem]; done))
      (first
        | (go_at_call 32; refine (last_zero _ _ _ _ _ _ _ _ _ _ _ _ _ _ _).mono ?_; rintro e w1 ⟨rfl, hb1⟩; obtain ⟨B1, hz1, q1, s1, t1, x1, y1, z1⟩ := bkeep (w := w) [w.heap.size] (by first | (simp; done) | (simp; omega)) (by first | (go_grown; done) | exact bdrewN (by go_grown) _) hb1; (try simp at hz1); clear hb1))
    all_goals go_wp2
    all_goals refine bodyPost_ret (by simp [results, Tryz.results46, go_sem, *] <;> rfl) rfl ?_
    all_goals exact ⟨rfl, (by first | with_reducible exact B1 | (go_grown; done) | with_reducible exact bdrewN B1 _ | (go_grown <;> first | with_reducible exact bdrewN B1 _ | with_reducible exact B1))⟩
  · obtain ⟨b, off, rfl, hb, d0, d1, d2, d3⟩ := state_cells (k := m) hS (by omega)
    rw [(no_limit r (m + 1) hn).2, hx] at d0 d1 d2 d3
    dsimp only at d0 d1 d2 d3
    clear hS r hx
    go_enter Tryz.func46, Tryz.ntmps46
    go_upto_region 1 with fail
    go_region_held3 (fun w' => w'.cell? ⟨cb, 0, none⟩ = some (.slice A1 ds.length c1) ∧ w'.cell? ⟨cb, 1, none⟩ = some (.slice A2 ss.length c2) ∧ w'.cell? ⟨cb, 2, none⟩ = some (.int .i64 src) ∧ w'.cell? ⟨cb, 3, none⟩ = some (.int .i64 co) ∧ w'.cell? ⟨cb, 4, none⟩ = some (.int .i64 si) ∧ w'.cell? ⟨cb, 5, none⟩ = some (.int .i64 hy) ∧ w'.cell? ⟨cb, 12, none⟩ = some (.slice Ae (m + 1) ce) ∧ w'.cell? ⟨cb, 13, none⟩ = some (.slice (some ⟨b, off, none⟩) (m + 1) cs) ∧ w'.cell? ⟨cb, 14, none⟩ = some (.slice Ad (m + 1) cd)) (first | (go_keep; done) | (simp [*, go_sem]; done))
      (first
        | (go_at_call 32; refine (last_some _ _ _ _ _ _ _ _ _ _ _ _ b off m _ ⟨k, d, lo, hi⟩ _ (by omega) (by simp [*, go_sem]) (by simp [*, go_sem]) (by simp [*, go_sem]) (by simp [*, go_sem]) (by first | omega | (simp; omega))).mono ?_; rintro e w1 ⟨rfl, hb1⟩; obtain ⟨B1, hz1, q1, s1, t1, x1, y1, z1⟩ := bkeep (w := w) [w.heap.size] (by first | (simp; done) | (simp; omega)) (by first | (go_grown; done) | exact bdrewN (by go_grown) _) hb1; (try simp at hz1); clear hb1))
    all_goals go_wp2
    all_goals refine bodyPost_ret (by simp [results, Tryz.results46, go_sem, *] <;> rfl) rfl ?_
    all_goals exact ⟨rfl, (by first | with_reducible exact B1 | (go_grown; done) | with_reducible exact bdrewN B1 _ | (go_grown <;> first | with_reducible exact bdrewN B1 _ | with_reducible exact B1))⟩
set_option maxRecDepth 4000 in
set_option maxHeartbeats 4000000 in
theorem cellLast1_any (A1 A2 : Option Addr) (c1 c2 : Nat) (ds ss : List Int) (src co si hy co' si' hy' : Int) (n : Nat) (cb : Nat) (As Bs : Option Addr) (cs cs' : Nat) (w : World) (F : CellF w cb A1 A2 c1 c2 ds ss src co si hy co' si' hy' n As Bs cs cs') (r : RayOk ds ss src co' si' hy') (hn : n ≤ 100) (k : Int) (d : Bool) (lo hi : Int) (hx : rwAt ds ss src co' si' hy' n = ⟨k, d, lo, hi⟩) :
    Calls Tryz.prog 46 #[.pointer (some ⟨cb, 0, none⟩), .int .i64 1] w fun e w' => e = .returned (rsV k d lo hi) ∧ Below w.heap.size w w' := by
  obtain ⟨Ae, Ad, ce, cd, f0, f1, f2, f3, f4, f5, f6, f7, f8⟩ := F.b
  have lcb := F.lt; have hS := F.s2; clear F
  rcases n with _ | m
  · simp only [rwAt, sumN, kdAt, Rs.mk.injEq] at hx
    obtain ⟨rfl, rfl, rfl, rfl⟩ := hx
    clear hS r
    go_enter Tryz.func46, Tryz.ntmps46
    go_upto_region 1 with fail
    go_region_held3 (fun w' => w'.cell? ⟨cb, 6, none⟩ = some (.slice A1 ds.length c1) ∧ w'.cell? ⟨cb, 7, none⟩ = some (.slice A2 ss.length c2) ∧ w'.cell? ⟨cb, 8, none⟩ = some (.int .i64 src) ∧ w'.cell? ⟨cb, 9, none⟩ = some (.int .i64 co') ∧ w'.cell? ⟨cb, 10, none⟩ = some (.int .i64 si') ∧ w'.cell? ⟨cb, 11, none⟩ = some (.int .i64 hy') ∧ w'.cell? ⟨cb, 15, none⟩ = some (.slice Ae 0 ce) ∧ w'.cell? ⟨cb, 16, none⟩ = some (.slice Bs 0 cs') ∧ w'.cell? ⟨cb, 17, none⟩ = some (.slice Ad 0 cd)) (first | (go_keep; done) | (simp [*, go_sem]; done))
      (first
        | (go_at_call 32; refine (last_zero _ _ _ _ _ _ _ _ _ _ _ _ _ _ _).mono ?_; rintro e w1 ⟨rfl, hb1⟩; obtain ⟨B1, hz1, q1, s1, t1, x1, y1, z1⟩ := bkeep (w := w) [w.heap.size] (by first | (simp; done) | (simp; omega)) (by first | (go_grown; done) | exact bdrewN (by go_grown) _) hb1; (try simp at hz1); clear hb1))
    all_goals go_wp2
    all_goals refine bodyPost_ret (by simp [results, Tryz.results46, go_sem, *] <;> rfl) rfl ?_
    all_goals exact ⟨rfl, (by first | with_reducible exact B1 | (go_grown; done) | with_reducible exact bdrewN B1 _ | (go_grown <;> first | with_reducible exact bdrewN B1 _ | with_reducible exact B1))⟩
  · obtain ⟨b, off, rfl, hb, d0, d1, d2, d3⟩ := state_cells (k := m) hS (by omega)
    rw [(no_limit r (m + 1) hn).2, hx] at d0 d1 d2 d3
    dsimp only at d0 d1 d2 d3
    clear hS r hx
    go_enter Tryz.func46, Tryz.ntmps46
    go_upto_region 1 with fail
    go_region_held3 (fun w' => w'.cell? ⟨cb, 6, none⟩ = some (.slice A1 ds.length c1) ∧ w'.cell? ⟨cb, 7, none⟩ = some (.slice A2 ss.length c2) ∧ w'.cell? ⟨cb, 8, none⟩ = some (.int .i64 src) ∧ w'.cell? ⟨cb, 9, none⟩ = some (.int .i64 co') ∧ w'.cell? ⟨cb, 10, none⟩ = some (.int .i64 si') ∧ w'.cell? ⟨cb, 11, none⟩ = some (.int .i64 hy') ∧ w'.cell? ⟨cb, 15, none⟩ = some (.slice Ae (m + 1) ce) ∧ w'.cell? ⟨cb, 16, none⟩ = some (.slice (some ⟨b, off, none⟩) (m + 1) cs') ∧ w'.cell? ⟨cb, 17, none⟩ = some (.slice Ad (m + 1) cd)) (first | (go_keep; done) | (simp [*, go_sem]; done))
      (first
        | (go_at_call 32; refine (last_some _ _ _ _ _ _ _ _ _ _ _ _ b off m _ ⟨k, d, lo, hi⟩ _ (by omega) (by simp [*, go_sem]) (by simp [*, go_sem]) (by simp [*, go_sem]) (by simp [*, go_sem]) (by first | omega | (simp; omega))).mono ?_; rintro e w1 ⟨rfl, hb1⟩; obtain ⟨B1, hz1, q1, s1, t1, x1, y1, z1⟩ := bkeep (w := w) [w.heap.size] (by first | (simp; done) | (simp; omega)) (by first | (go_grown; done) | exact bdrewN (by go_grown) _) hb1; (try simp at hz1); clear hb1))
    all_goals go_wp2
    all_goals refine bodyPost_ret (by simp [results, Tryz.results46, go_sem, *] <;> rfl) rfl ?_
    all_goals exact ⟨rfl, (by first | with_reducible exact B1 | (go_grown; done) | with_reducible exact bdrewN B1 _ | (go_grown <;> first | with_reducible exact bdrewN B1 _ | with_reducible exact B1))⟩
set_option maxRecDepth 4000 in
set_option maxHeartbeats 4000000 in
theorem implVerdict_any (A1 A2 : Option Addr) (c1 c2 : Nat) (ds ss : List Int) (src co si hy co' si' hy' : Int) (n : Nat) (cb : Nat) (As Bs : Option Addr) (cs cs' : Nat) (knot dist : Int) (w : World) (F : CellF w cb A1 A2 c1 c2 ds ss src co si hy co' si' hy' n As Bs cs cs') (r : RayOk ds ss src co si hy) (r' : RayOk ds ss src co' si' hy') (hn : n ≤ 100) :
    Calls Tryz.prog 21 #[.pointer (some ⟨cb, 0, none⟩), .int .i64 knot, .int .i64 dist] w fun e w' => e = .returned (.int .i64 (cvI ds ss src co si hy co' si' hy' n knot dist)) ∧ Below w.heap.size w w' := by
  have lcb := F.lt; have f18 := F.same
  rcases Bool.eq_false_or_eq_true (sameN ds ss src co si hy co' si' hy' n) with hs | hs
  rotate_left
  · have HE : Hid (cvI ds ss src co si hy co' si' hy' n knot dist = 1) := Lib.hid (by unfold cvI cvB; rw [hs]; rfl)
    rw [hs] at f18
    clear F hs
    go_enter Tryz.func21, Tryz.ntmps21
    go_wp2
    go_ret
    exact ⟨ret_int HE.out.symm, by go_grown⟩
  have f19 := F.lo hs; have f20 := F.hi hs
  rw [hs] at f18
  obtain ⟨xk, xd, xl, xh, hx⟩ := rs_cell (rwAt ds ss src co si hy n)
  obtain ⟨yk, yd, yl, yh, hy_⟩ := rs_cell (rwAt ds ss src co' si' hy' n)
  have HE : cvI ds ss src co si hy co' si' hy' n knot dist = if xk = knot ∧ clLo ds ss src co si hy co' si' hy' n ≤ dist ∧ dist ≤ clHi ds ss src co si hy co' si' hy' n then (if (xh < dist ∧ dist < yl) ∨ (yh < dist ∧ dist < xl) then 2 else 1) else 0 := by unfold cvI cvB; rw [hs, hx, hy_, if_pos rfl]
  generalize clLo ds ss src co si hy co' si' hy' n = zl at HE f19
  generalize clHi ds ss src co si hy co' si' hy' n = zh at HE f20
  generalize cvI ds ss src co si hy co' si' hy' n knot dist = V at HE ⊢
  have L0 : ∀ w1, Below w.heap.size w w1 → Calls Tryz.prog 46 #[.pointer (some ⟨cb, 0, none⟩), .int .i64 0] w1 fun e w' => e = .returned (rsV xk xd xl xh) ∧ Below w1.heap.size w1 w' := fun w1 hb => cellLast0_any A1 A2 c1 c2 ds ss src co si hy co' si' hy' n cb As Bs cs cs' w1 (F.below hb (Nat.le_refl _)) r hn _ _ _ _ hx
  have L1 : ∀ w1, Below w.heap.size w w1 → Calls Tryz.prog 46 #[.pointer (some ⟨cb, 0, none⟩), .int .i64 1] w1 fun e w' => e = .returned (rsV yk yd yl yh) ∧ Below w1.heap.size w1 w' := fun w1 hb => cellLast1_any A1 A2 c1 c2 ds ss src co si hy co' si' hy' n cb As Bs cs cs' w1 (F.below hb (Nat.le_refl _)) r' hn _ _ _ _ hy_
  have H0 := Lib.hid L0; have H1 := Lib.hid L1; have HE_ := Lib.hid HE; clear HE; have HE := Lib.hid HE_.out; clear HE_; clear L0 L1 F hx hy_ hs r r'
  by_cases hk : xk = knot
  rotate_left
  · have hk2 : (xk != knot) = true := by simpa using hk
    go_enter Tryz.func21, Tryz.ntmps21
    go_wp2_with fail
    refine (H0.out _ (by go_grown)).mono ?_
    rintro e w1 ⟨rfl, hb1⟩
    obtain ⟨B1, hz1, q1, s1, t1, x1, y1, z1⟩ := bkeep (w := w) [cb] (by first | (simp; done) | (simp; omega)) (by first | (go_grown; done) | exact bdrewN (by go_grown) _) hb1; (try simp at hz1); clear hb1
    go_wp2_with fail
    refine (H1.out _ (by first | with_reducible exact B1 | (go_grown; done) | with_reducible exact bdrewN B1 _ | (go_grown <;> first | with_reducible exact bdrewN B1 _ | with_reducible exact B1))).mono ?_
    rintro e w2 ⟨rfl, hb2⟩
    obtain ⟨B2, hz2, q2, s2, t2, x2, y2, z2⟩ := bkeep (w := w) [cb] (by first | (simp; done) | (simp; omega)) (by first | (go_grown; done) | exact bdrewN (by go_grown) _) hb2; (try simp at hz2); clear hb2
    have lw2 : cb < w2.heap.size := by omega
    obtain ⟨nva1, nvb1, nva2, nvb2⟩ : (cb = w2.heap.size) = False ∧ (w2.heap.size = cb) = False ∧ (cb = w2.heap.size + 1) = False ∧ (w2.heap.size + 1 = cb) = False := by
      refine ⟨?_, ?_, ?_, ?_⟩ <;> exact eq_false (by omega)
    go_wp2_with (go_at_call 47; refine (contains_any _ _ _ _).mono ?_; rintro e w3 ⟨rfl, hb3⟩; obtain ⟨B3, hz3, q3, s3, t3, x3, y3, z3⟩ := bkeep (w := w) [w2.heap.size, w2.heap.size + 1, cb] (by first | (simp; done) | (simp; omega)) (by first | (go_grown; done) | exact bdrewN (by go_grown) _) hb3; (try simp at hz3); clear hb3)
    all_goals go_ret
    all_goals exact ⟨ret_int (by rw [HE.out]; rw [if_neg (fun g => hk g.1)]), by first | exact (by first | with_reducible exact B3 | (go_grown; done) | with_reducible exact bdrewN B3 _ | (go_grown <;> first | with_reducible exact bdrewN B3 _ | with_reducible exact B3)) | exact (by first | with_reducible exact B2 | (go_grown; done) | with_reducible exact bdrewN B2 _ | (go_grown <;> first | with_reducible exact bdrewN B2 _ | with_reducible exact B2))⟩
  have hk2 : (xk != knot) = false := by simpa using hk
  rcases Bool.eq_false_or_eq_true (inB dist zl zh) with hc | hc
  rotate_left
  · have hb : ¬ (zl ≤ dist ∧ dist ≤ zh) := fun g => by
      have : inB dist zl zh = true := by simp [inB]; omega
      rw [this] at hc; exact absurd hc (by decide)
    have CT := Lib.hid (show ∀ w, Calls Tryz.prog 47 #[ivV zl zh, .int .i64 dist] w fun e w' => e = .returned (.bool false) ∧ Below w.heap.size w w' from fun w => by have q := contains_any zl zh dist w; rw [hc] at q; exact q)
    clear hc
    go_enter Tryz.func21, Tryz.ntmps21
    go_wp2_with fail
    refine (H0.out _ (by go_grown)).mono ?_
    rintro e w1 ⟨rfl, hb1⟩
    obtain ⟨B1, hz1, q1, s1, t1, x1, y1, z1⟩ := bkeep (w := w) [cb] (by first | (simp; done) | (simp; omega)) (by first | (go_grown; done) | exact bdrewN (by go_grown) _) hb1; (try simp at hz1); clear hb1
    go_wp2_with fail
    refine (H1.out _ (by first | with_reducible exact B1 | (go_grown; done) | with_reducible exact bdrewN B1 _ | (go_grown <;> first | with_reducible exact bdrewN B1 _ | with_reducible exact B1))).mono ?_
    rintro e w2 ⟨rfl, hb2⟩
    obtain ⟨B2, hz2, q2, s2, t2, x2, y2, z2⟩ := bkeep (w := w) [cb] (by first | (simp; done) | (simp; omega)) (by first | (go_grown; done) | exact bdrewN (by go_grown) _) hb2; (try simp at hz2); clear hb2
    have lw2 : cb < w2.heap.size := by omega
    obtain ⟨nva1, nvb1, nva2, nvb2⟩ : (cb = w2.heap.size) = False ∧ (w2.heap.size = cb) = False ∧ (cb = w2.heap.size + 1) = False ∧ (w2.heap.size + 1 = cb) = False := by
      refine ⟨?_, ?_, ?_, ?_⟩ <;> exact eq_false (by omega)
    go_wp2_with (go_at_call 47; refine (CT.out _).mono ?_; rintro e w3 ⟨rfl, hb3⟩; obtain ⟨B3, hz3, q3, s3, t3, x3, y3, z3⟩ := bkeep (w := w) [w2.heap.size, w2.heap.size + 1, cb] (by first | (simp; done) | (simp; omega)) (by first | (go_grown; done) | exact bdrewN (by go_grown) _) hb3; (try simp at hz3); clear hb3)
    all_goals go_ret
    all_goals exact ⟨ret_int (by rw [HE.out]; rw [if_neg (fun g => hb g.2)]), by first | exact (by first | with_reducible exact B3 | (go_grown; done) | with_reducible exact bdrewN B3 _ | (go_grown <;> first | with_reducible exact bdrewN B3 _ | with_reducible exact B3)) | exact (by first | with_reducible exact B2 | (go_grown; done) | with_reducible exact bdrewN B2 _ | (go_grown <;> first | with_reducible exact bdrewN B2 _ | with_reducible exact B2))⟩
  have hb := inB_bd hc
  have CT := Lib.hid (show ∀ w, Calls Tryz.prog 47 #[ivV zl zh, .int .i64 dist] w fun e w' => e = .returned (.bool true) ∧ Below w.heap.size w w' from fun w => by have q := contains_any zl zh dist w; rw [hc] at q; exact q)
  clear hc
  go_enter Tryz.func21, Tryz.ntmps21
  go_wp2_with fail
  refine (H0.out _ (by go_grown)).mono ?_
  rintro e w1 ⟨rfl, hb1⟩
  obtain ⟨B1, hz1, q1, s1, t1, x1, y1, z1⟩ := bkeep (w := w) [cb] (by first | (simp; done) | (simp; omega)) (by first | (go_grown; done) | exact bdrewN (by go_grown) _) hb1; (try simp at hz1); clear hb1
  go_wp2_with fail
  refine (H1.out _ (by first | with_reducible exact B1 | (go_grown; done) | with_reducible exact bdrewN B1 _ | (go_grown <;> first | with_reducible exact bdrewN B1 _ | with_reducible exact B1))).mono ?_
  rintro e w2 ⟨rfl, hb2⟩
  obtain ⟨B2, hz2, q2, s2, t2, x2, y2, z2⟩ := bkeep (w := w) [cb] (by first | (simp; done) | (simp; omega)) (by first | (go_grown; done) | exact bdrewN (by go_grown) _) hb2; (try simp at hz2); clear hb2
  have lw2 : cb < w2.heap.size := by omega
  obtain ⟨nva1, nvb1, nva2, nvb2⟩ : (cb = w2.heap.size) = False ∧ (w2.heap.size = cb) = False ∧ (cb = w2.heap.size + 1) = False ∧ (w2.heap.size + 1 = cb) = False := by
    refine ⟨?_, ?_, ?_, ?_⟩ <;> exact eq_false (by omega)
  go_upto_region 6 with (go_at_call 47; refine (CT.out _).mono ?_; rintro e w3 ⟨rfl, hb3⟩; obtain ⟨B3, hz3, q3, s3, t3, x3, y3, z3⟩ := bkeep (w := w) [w2.heap.size, w2.heap.size + 1, cb] (by first | (simp; done) | (simp; omega)) (by first | (go_grown; done) | exact bdrewN (by go_grown) _) hb3; (try simp at hz3); clear hb3)
  by_cases p1 : xh < dist <;> by_cases p2 : dist < yl <;> by_cases p3 : yh < dist <;> by_cases p4 : dist < xl
  all_goals go_wp2
  all_goals go_ret
  all_goals exact ⟨ret_int (by rw [HE.out, if_pos ⟨hk, hb⟩]; first | rw [if_pos (by omega)] | rw [if_neg (by omega)]), by first | exact (by first | with_reducible exact B3 | (go_grown; done) | with_reducible exact bdrewN B3 _ | (go_grown <;> first | with_reducible exact bdrewN B3 _ | with_reducible exact B3)) | exact (by first | with_reducible exact B2 | (go_grown; done) | with_reducible exact bdrewN B2 _ | (go_grown <;> first | with_reducible exact bdrewN B2 _ | with_reducible exact B2))⟩
set_option maxHeartbeats 4000000 in
theorem l08Verdict_any (x y : Rs) (s : Bool) (lo hi knot dist : Int) (w : World) :
    Calls Tryz.prog 24 #[cellV x y s lo hi, .int .i64 knot, .int .i64 dist] w fun e w' => e = .returned (.int .i64 (cvB x y s lo hi knot dist)) ∧ Below w.heap.size w w' := by
  obtain ⟨xk, xd, xl, xh, rfl⟩ := rs_cell x
  obtain ⟨yk, yd, yl, yh, rfl⟩ := rs_cell y
  rcases s with _ | _
  · have HE : Hid (cvB ⟨xk, xd, xl, xh⟩ ⟨yk, yd, yl, yh⟩ false lo hi knot dist = 1) := Lib.hid rfl
    go_enter Tryz.func24, Tryz.ntmps24
    go_wp2_with fail
    go_region
    all_goals go_wp2
    all_goals go_ret
    all_goals exact ⟨ret_int HE.out.symm, by go_grown⟩
  · have HE : cvB ⟨xk, xd, xl, xh⟩ ⟨yk, yd, yl, yh⟩ true lo hi knot dist = if xk = knot ∧ lo ≤ dist ∧ dist ≤ hi then (if (xh < dist ∧ dist < yl) ∨ (yh < dist ∧ dist < xl) then 2 else 1) else 0 := rfl
    generalize cvB ⟨xk, xd, xl, xh⟩ ⟨yk, yd, yl, yh⟩ true lo hi knot dist = V at HE ⊢
    have HE_ := Lib.hid HE
    clear HE
    have HE := Lib.hid HE_.out; clear HE_
    by_cases hk : xk = knot
    rotate_left
    · have hk2 : (xk != knot) = true := by simpa using hk
      go_enter Tryz.func24, Tryz.ntmps24
      go_wp2_with fail
      go_region
      all_goals go_wp2
      all_goals go_ret
      all_goals exact ⟨ret_int (by rw [HE.out, if_neg (fun g => hk g.1)]), by go_grown⟩
    have hk2 : (xk != knot) = false := by simpa using hk
    rcases Bool.eq_false_or_eq_true (inB dist lo hi) with hc | hc
    · have hb := inB_bd hc
      go_enter Tryz.func24, Tryz.ntmps24
      go_wp2_with fail
      go_region
      all_goals go_upto_region 6 with (go_at_call 53; refine (l01In_any _ _ _ _).mono ?_; rintro e w' ⟨rfl, rfl⟩)
      all_goals by_cases p1 : xh < dist <;> by_cases p2 : dist < yl <;> by_cases p3 : yh < dist <;> by_cases p4 : dist < xl
      all_goals go_wp2
      all_goals go_ret
      all_goals exact ⟨ret_int (by rw [HE.out, if_pos ⟨hk, hb⟩]; first | rw [if_pos (by omega)] | rw [if_neg (by omega)]), by go_grown⟩
    · have hb : ¬ (lo ≤ dist ∧ dist ≤ hi) := fun g => by
        have : inB dist lo hi = true := by simp [inB]; omega
        rw [this] at hc; exact absurd hc (by decide)
      go_enter Tryz.func24, Tryz.ntmps24
      go_wp2_with fail
      go_region
      all_goals go_wp2_with (go_at_call 53; refine (l01In_any _ _ _ _).mono ?_; rintro e w' ⟨rfl, rfl⟩)
      all_goals go_ret
      all_goals exact ⟨ret_int (by rw [HE.out, if_neg (fun g => hb g.2)]), by go_grown⟩
end Go.Proofs.YtopggkomkfjbfaaGreat
