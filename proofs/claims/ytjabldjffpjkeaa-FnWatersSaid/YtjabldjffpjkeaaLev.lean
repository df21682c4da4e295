/- The level at a time, by the program and by the reference. -/
import Derived.Test.YtjabldjffpjkeaaBs
import Derived.IntWalk
import Derived.BigRegion
import Derived.Deep.RegionHeld3
namespace Go.Proofs.Ytjabldjffpjkeaa
set_option linter.unusedSimpArgs false
set_option linter.unusedVariables false
open Go.RowKit

set_option maxHeartbeats 4000000 in
theorem levelAt_any (A1 A2 : Option Addr) (c1 c2 : Nat) (ts ls : List Int) (x : Int) (w : World) (h : ProfAt w A1 c1 A2 c2 ts ls) (p : GauOk ts ls) :
    Calls Try.prog 35 #[profV A1 ts.length c1 A2 ls.length c2, .int .i64 x] w fun e w' => e = .returned (.tuple #[ivV (lvL ts ls x) (lvH ts ls x), .int .i64 (lvC ts x)]) ∧ Below w.heap.size w w' := by
  have hb := bs_at p x
  obtain ⟨i, hi⟩ : ∃ i, bsI ts x = i := ⟨_, rfl⟩
  rw [hi] at hb
  have l1 := p.l1; have l2 := p.l2; have l3 := p.l3; have l4 := p.l4; have le := hb.le
  obtain ⟨b1, o1, rfl, hb1, q1⟩ := h.1.spd (by omega)
  obtain ⟨b2, o2, rfl, hb2, q2⟩ := h.2.spd (by omega)
  by_cases hin : inB x 0 1000000 = true
  · by_cases hf : i < ts.length ∧ spd ts i = x
    · obtain ⟨e0, e1, e2⟩ := lv_found (ls := ls) hin hi hf.1 hf.2
      have d1 := q2 i (by omega)
      have HD := Lib.hid (decide_eq_true hf)
      have k1 : (i : Int) < ls.length := by omega
      have k0 : (0 : Int) ≤ i := by omega
      have H := Lib.hid h; have HB := Lib.hid hb; have E0 := Lib.hid e0; have E1 := Lib.hid e1; have E2 := Lib.hid e2
      clear q1 q2 h hb e0 e1 e2 hf hi p
      go_enter Try.func35, Try.ntmps35
      go_wp2_with (first
        | (go_at_call 62; refine (binSearch_at _ _ _ x i i _ _ (H.out.1.below (B := w.heap.size) (by first | exact Below.refl _ _ | (go_grown; done) | exact bdrewN (by go_grown) _) (Nat.le_refl _)) l1 l2 HB.out rfl HD.out).mono ?_; rintro e w' ⟨rfl, rfl⟩)
        | (go_at_call 51; refine (within_any _ _ _ _).mono ?_; rintro e w' ⟨rfl, rfl⟩))
      go_region
      go_wp2
      refine bodyPost_ret (by simp [results, Try.results35, go_sem, *] <;> rfl) rfl ?_
      exact ⟨by rw [E0.out, E1.out, E2.out], (by first | (go_grown; done) | (refine bdrewN ?_ _; go_grown; done) | (go_grown <;> (refine bdrewN ?_ _; go_grown; done)))⟩
    · have hd : decide (i < ts.length ∧ spd ts i = x) = false := decide_eq_false hf
      by_cases hz : i = 0 ∨ i = ts.length
      · obtain ⟨e0, e1, e2⟩ := lv_edge (ls := ls) hin hi hf hz
        have H := Lib.hid h; have HB := Lib.hid hb; have E0 := Lib.hid e0; have E1 := Lib.hid e1; have E2 := Lib.hid e2; have HD := Lib.hid hd
        clear q1 q2 h hb e0 e1 e2 hf hi p hd
        rcases hz with rfl | hz
        · go_enter Try.func35, Try.ntmps35
          go_wp2_with (first
            | (go_at_call 62; refine (binSearch_at _ _ _ x 0 0 false _ (H.out.1.below (B := w.heap.size) (by first | exact Below.refl _ _ | (go_grown; done) | exact bdrewN (by go_grown) _) (Nat.le_refl _)) l1 l2 HB.out rfl HD.out).mono ?_; rintro e w' ⟨rfl, rfl⟩)
            | (go_at_call 51; refine (within_any _ _ _ _).mono ?_; rintro e w' ⟨rfl, rfl⟩))
          refine bodyPost_ret (by simp [results, Try.results35, go_sem, *] <;> rfl) rfl ?_
          exact ⟨by rw [E0.out, E1.out, E2.out], (by first | (go_grown; done) | (refine bdrewN ?_ _; go_grown; done) | (go_grown <;> (refine bdrewN ?_ _; go_grown; done)))⟩
        · subst hz
          have z0 : ((ts.length : Int) == 0) = false := beq_eq_false_iff_ne.2 (by omega)
          go_enter Try.func35, Try.ntmps35
          go_wp2_with (first
            | (go_at_call 62; refine (binSearch_at _ _ _ x ts.length ts.length false _ (H.out.1.below (B := w.heap.size) (by first | exact Below.refl _ _ | (go_grown; done) | exact bdrewN (by go_grown) _) (Nat.le_refl _)) l1 l2 HB.out rfl HD.out).mono ?_; rintro e w' ⟨rfl, rfl⟩)
            | (go_at_call 51; refine (within_any _ _ _ _).mono ?_; rintro e w' ⟨rfl, rfl⟩))
          refine bodyPost_ret (by simp [results, Try.results35, go_sem, *] <;> rfl) rfl ?_
          exact ⟨by rw [E0.out, E1.out, E2.out], (by first | (go_grown; done) | (refine bdrewN ?_ _; go_grown; done) | (go_grown <;> (refine bdrewN ?_ _; go_grown; done)))⟩
      · obtain ⟨k, rfl⟩ : ∃ k, i = k + 1 := ⟨i - 1, by omega⟩
        have hlt : k + 1 < ts.length := by omega
        have hne : spd ts ((k : Int) + 1) ≠ x := fun g => hf ⟨hlt, by rw [show ((k + 1 : Nat) : Int) = (k : Int) + 1 by omega]; exact g⟩
        obtain ⟨e0, e1, e2⟩ := lv_inner (ls := ls) hin hi hlt hne
        obtain ⟨g1, g2, g3, g4, g5, g6, g7, g8, g9, g10, g11⟩ := lvOk p hi hlt hne
        have d0 := q1 k (by omega); have d1 := q1 (k + 1) (by omega)
        have s0 := q2 k (by omega); have s1 := q2 (k + 1) (by omega)
        have kk : ((k + 1 : Nat) : Int) = (k : Int) + 1 := by omega
        rw [kk] at d1 s1
        obtain ⟨f1, f2⟩ := div_bd (b := spd ts ((k : Int) + 1) - spd ts k) (by omega) g10 g11
        obtain ⟨f3, f4⟩ := div_bd (a := -((spd ls ((k : Int) + 1) - spd ls k) * (x - spd ts k))) (b := spd ts ((k : Int) + 1) - spd ts k) (M := 4000000000) (by omega) (by omega) (by omega)
        have k0 : (0 : Int) ≤ k := by omega
        have k1 : (k : Int) < ts.length := by omega
        have k2 : (k : Int) < ls.length := by omega
        have k3 : (0 : Int) ≤ (k : Int) + 1 := by omega
        have k4 : (k : Int) + 1 < ts.length := by omega
        have k5 : (k : Int) + 1 < ls.length := by omega
        have k6 : ((k : Int) + 1).toNat = k + 1 := by omega
        have k7 : (k : Int) + 1 - 1 = k := by omega
        have z1 : ((k : Int) + 1 == (ts.length : Int)) = false := beq_eq_false_iff_ne.2 (by omega)
        have z0 : ((k : Int) + 1 == 0) = false := beq_eq_false_iff_ne.2 (by omega)
        have H := Lib.hid h; have HB := Lib.hid hb; have E0 := Lib.hid e0; have E1 := Lib.hid e1; have E2 := Lib.hid e2
        clear q1 q2 h hb e0 e1 e2 hf hi p hz hlt hne
        have HD := Lib.hid hd; have KK := Lib.hid kk; clear hd
        go_enter Try.func35, Try.ntmps35
        go_wp2_with (first
          | (go_at_call 62; refine (binSearch_at _ _ _ x (k + 1) ((k : Int) + 1) false _ (H.out.1.below (B := w.heap.size) (by first | exact Below.refl _ _ | (go_grown; done) | exact bdrewN (by go_grown) _) (Nat.le_refl _)) l1 l2 HB.out KK.out HD.out).mono ?_; rintro e w' ⟨rfl, rfl⟩)
          | (go_at_call 51; refine (within_any _ _ _ _).mono ?_; rintro e w' ⟨rfl, rfl⟩))
        have W0 : IntKind.i64.wrap ((k : Int) + 1 - 1) = (k : Int) := by rw [k7]; exact IntWalk.i64_in _ (by omega)
        have W4 : IntKind.i64.wrap (spd ts ((k : Int) + 1) - spd ts k) = spd ts ((k : Int) + 1) - spd ts k := IntWalk.i64_in _ (by omega)
        go_quiet (fail)
        clear W4
        go_wp2_with fail
        have W1 : IntKind.i64.wrap (spd ls ((k : Int) + 1) - spd ls k) = spd ls ((k : Int) + 1) - spd ls k := IntWalk.i64_in _ (by omega)
        have W2 : IntKind.i64.wrap (x - spd ts k) = x - spd ts k := IntWalk.i64_in _ (by omega)
        have W3 : IntKind.i64.wrap ((spd ls ((k : Int) + 1) - spd ls k) * (x - spd ts k)) = (spd ls ((k : Int) + 1) - spd ls k) * (x - spd ts k) := IntWalk.i64_in _ (by omega)
        go_quiet (fail)
        clear W0 W1 W2 W3
        have W5 : IntKind.i64.wrap (spd ls k + (spd ls ((k : Int) + 1) - spd ls k) * (x - spd ts k) / (spd ts ((k : Int) + 1) - spd ts k)) = spd ls k + (spd ls ((k : Int) + 1) - spd ls k) * (x - spd ts k) / (spd ts ((k : Int) + 1) - spd ts k) := IntWalk.i64_in _ (by omega)
        have W6 : IntKind.i64.wrap (spd ls k + -(-((spd ls ((k : Int) + 1) - spd ls k) * (x - spd ts k)) / (spd ts ((k : Int) + 1) - spd ts k))) = spd ls k + -(-((spd ls ((k : Int) + 1) - spd ls k) * (x - spd ts k)) / (spd ts ((k : Int) + 1) - spd ts k)) := IntWalk.i64_in _ (by omega)
        have fb : 0 < spd ts ((k : Int) + 1) - spd ts k ∧ spd ts ((k : Int) + 1) - spd ts k ≤ 9000000000000000000 ∧ -9000000000000000000 ≤ (spd ls ((k : Int) + 1) - spd ls k) * (x - spd ts k) ∧ (spd ls ((k : Int) + 1) - spd ls k) * (x - spd ts k) ≤ 9000000000000000000 := by omega
        obtain ⟨F1, F2, F3, F4⟩ := fb
        go_wp2_with (first
          | (go_at_call 37; refine (implFloor_any _ _ _ F1 F2 F3 F4).mono ?_; rintro e w' ⟨rfl, rfl⟩)
          | (go_at_call 38; refine (implCeil_any _ _ _ F1 F2 F3 F4).mono ?_; rintro e w' ⟨rfl, rfl⟩))
        clear W5 W6
        refine bodyPost_ret (by simp [results, Try.results35, go_sem, *] <;> rfl) rfl ?_
        exact ⟨by rw [E0.out, E1.out, E2.out], (by first | (go_grown; done) | (refine bdrewN ?_ _; go_grown; done) | (go_grown <;> (refine bdrewN ?_ _; go_grown; done)))⟩
  · obtain ⟨e0, e1, e2⟩ := lv_out (ts := ts) (ls := ls) hin
    have hin' : inB x 0 1000000 = false := by simpa using hin
    obtain ⟨f, hd⟩ : ∃ f, decide (i < ts.length ∧ spd ts i = x) = f := ⟨_, rfl⟩
    have H := Lib.hid h; have HB := Lib.hid hb; have E0 := Lib.hid e0; have E1 := Lib.hid e1; have E2 := Lib.hid e2; have HD := Lib.hid hd
    clear q1 q2 h hb e0 e1 e2 hi p hin hd
    go_enter Try.func35, Try.ntmps35
    go_wp2_with (first
      | (go_at_call 62; refine (binSearch_at _ _ _ x i i _ _ (H.out.1.below (B := w.heap.size) (by first | exact Below.refl _ _ | (go_grown; done) | exact bdrewN (by go_grown) _) (Nat.le_refl _)) l1 l2 HB.out rfl HD.out).mono ?_; rintro e w' ⟨rfl, rfl⟩)
      | (go_at_call 51; refine (within_any _ _ _ _).mono ?_; rintro e w' ⟨rfl, rfl⟩))
    refine bodyPost_ret (by simp [results, Try.results35, go_sem, *] <;> rfl) rfl ?_
    exact ⟨by rw [E0.out, E1.out, E2.out], (by first | (go_grown; done) | (refine bdrewN ?_ _; go_grown; done) | (go_grown <;> (refine bdrewN ?_ _; go_grown; done)))⟩
set_option maxHeartbeats 2000000 in
theorem implLevelAt_any (A1 A2 : Option Addr) (c1 c2 : Nat) (ts ls : List Int) (x : Int) (w : World) (h : ProfAt w A1 c1 A2 c2 ts ls) :
    Calls Try.prog 13 #[profV A1 ts.length c1 A2 ls.length c2, .int .i64 x] w fun e w' => e = .returned (.tuple #[ivV (lvLo ts ls x) (lvHi ts ls x), .int .i64 (lvE ts ls x)]) ∧ Below w.heap.size w w' := by
  by_cases hp : gauB ts ls = true
  · obtain ⟨e0, e1, e2⟩ := lv_good (x := x) hp
    have p := gauOk_of hp
    have H := Lib.hid h; have E0 := Lib.hid e0; have E1 := Lib.hid e1; have E2 := Lib.hid e2; have PP := Lib.hid p; clear h e0 e1 e2 p
    go_enter Try.func13, Try.ntmps13
    go_wp2_with (first
      | (go_at_call 24; refine (implIsGauge_any _ _ _ _ _ _ _ ⟨(H.out.1.below (B := w.heap.size) (by first | exact Below.refl _ _ | (go_grown; done) | exact bdrewN (by go_grown) _) (Nat.le_refl _)), (H.out.2.below (B := w.heap.size) (by first | exact Below.refl _ _ | (go_grown; done) | exact bdrewN (by go_grown) _) (Nat.le_refl _))⟩).mono ?_; rintro e w1 ⟨rfl, hb1⟩; obtain ⟨B1, hz1, q1, s1, t1, x1, y1, z1⟩ := bkeep (w := w) [w.heap.size, w.heap.size + 1] (by first | (simp; done) | (simp; omega)) (by first | (go_grown; done) | exact bdrewN (by go_grown) _) hb1; (try simp at hz1); clear hb1)
      | (go_at_call 35; refine (levelAt_any _ _ _ _ _ _ _ _ ⟨(H.out.1.below (B := w.heap.size) (by first | exact Below.refl _ _ | (go_grown; done) | exact bdrewN (by go_grown) _) (Nat.le_refl _)), (H.out.2.below (B := w.heap.size) (by first | exact Below.refl _ _ | (go_grown; done) | exact bdrewN (by go_grown) _) (Nat.le_refl _))⟩ PP.out).mono ?_; rintro e w2 ⟨rfl, hb2⟩; obtain ⟨B2, hz2, q2, s2, t2, x2, y2, z2⟩ := bkeep (w := w) [w.heap.size, w.heap.size + 1] (by first | (simp; done) | (simp; omega)) (by first | (go_grown; done) | exact bdrewN (by go_grown) _) hb2; (try simp at hz2); clear hb2))
    refine bodyPost_ret (by simp [results, Try.results13, go_sem, *] <;> rfl) rfl ?_
    exact ⟨by rw [E0.out, E1.out, E2.out], (by first | with_reducible exact B2 | (go_grown; done) | with_reducible exact bdrewN B2 _ | (go_grown <;> first | with_reducible exact bdrewN B2 _ | with_reducible exact B2))⟩
  · have hp' : gauB ts ls = false := by simpa using hp
    obtain ⟨e0, e1, e2⟩ := lv_bad (x := x) hp'
    have H := Lib.hid h; have E0 := Lib.hid e0; have E1 := Lib.hid e1; have E2 := Lib.hid e2; clear h e0 e1 e2 hp
    go_enter Try.func13, Try.ntmps13
    go_wp2_with (go_at_call 24; refine (implIsGauge_any _ _ _ _ _ _ _ ⟨(H.out.1.below (B := w.heap.size) (by first | exact Below.refl _ _ | (go_grown; done) | exact bdrewN (by go_grown) _) (Nat.le_refl _)), (H.out.2.below (B := w.heap.size) (by first | exact Below.refl _ _ | (go_grown; done) | exact bdrewN (by go_grown) _) (Nat.le_refl _))⟩).mono ?_; rintro e w1 ⟨rfl, hb1⟩; obtain ⟨B1, hz1, q1, s1, t1, x1, y1, z1⟩ := bkeep (w := w) [w.heap.size, w.heap.size + 1] (by first | (simp; done) | (simp; omega)) (by first | (go_grown; done) | exact bdrewN (by go_grown) _) hb1; (try simp at hz1); clear hb1)
    refine bodyPost_ret (by simp [results, Try.results13, go_sem, *] <;> rfl) rfl ?_
    exact ⟨by rw [E0.out, E1.out, E2.out], (by first | with_reducible exact B1 | (go_grown; done) | with_reducible exact bdrewN B1 _ | (go_grown <;> first | with_reducible exact bdrewN B1 _ | with_reducible exact B1))⟩
end Go.Proofs.Ytjabldjffpjkeaa
