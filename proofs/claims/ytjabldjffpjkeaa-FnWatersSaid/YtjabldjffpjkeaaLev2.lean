/- The level at a time, by the reference. -/
import Derived.Test.YtjabldjffpjkeaaLev
import Derived.IntWalk
import Derived.BigRegion
import Derived.Deep.RegionHeld3
namespace Go.Proofs.Ytjabldjffpjkeaa
set_option linter.unusedSimpArgs false
set_option linter.unusedVariables false
open Go.RowKit

set_option maxHeartbeats 4000000 in
theorem l20Level_found (A1 A2 : Option Addr) (c1 c2 : Nat) (ts ls : List Int) (x : Int) (k : Nat) (w : World) (h : ProfAt w A1 c1 A2 c2 ts ls) (p : GauOk ts ls) (h1 : k < ts.length) (h2 : spd ts k = x) :
    Calls Try.prog 57 #[profV A1 ts.length c1 A2 ls.length c2, .int .i64 x] w fun e w' => e = .returned (ivV (spd ls k) (spd ls k)) ∧ Below w.heap.size w w' := by
  have l1 := p.l1; have l2 := p.l2; have l3 := p.l3; have l4 := p.l4
  obtain ⟨b1, o1, rfl, hb1, q1⟩ := h.1.spd (by omega)
  obtain ⟨b2, o2, rfl, hb2, q2⟩ := h.2.spd (by omega)
  have s0 := q2 k (by omega)
  have k0 : (0 : Int) ≤ k := by omega
  have k2 : (k : Int) < ls.length := by omega
  have HP := Lib.hid p; have HQ := Lib.hid q1; have H2 := Lib.hid h2
  clear q1 q2 h p h2
  go_enter Try.func57, Try.ntmps57
  go_wp2
  go_loop [5] (fun i => ∃ j : Nat, j ≤ k ∧ i = .int .i64 j) (fun i => k - (intOf i).toNat)
  case atStart => exact ⟨0, by omega, rfl⟩
  case round =>
    obtain ⟨j, hj, rfl⟩ := hrel
    by_cases hlt : j < k
    · have hc := HQ.out (j + 1) (by omega)
      have hv : spd ts ((j : Int) + 1) ≤ x := by
        rw [← H2.out]
        rcases Nat.lt_or_ge (j + 1) k with g | g
        · have := HP.out.up (j + 1) k g h1
          rw [show ((j + 1 : Nat) : Int) = (j : Int) + 1 by omega] at this; omega
        · rw [show k = j + 1 by omega, show ((j + 1 : Nat) : Int) = (j : Int) + 1 by omega]; omega
      rw [show ((j + 1 : Nat) : Int) = (j : Int) + 1 by omega] at hc
      have hlen : (j : Int) + 1 < ts.length := by omega
      go_wp2
      go_round
      case rel => exact ⟨j + 1, by omega, by go_num⟩
      case measure => simp [intOf]; omega
    · obtain rfl : j = k := by omega
      have hc0 := HQ.out j h1
      rw [H2.out] at hc0
      have k1 : (j : Int) < ts.length := by omega
      by_cases hlen : (j : Int) + 1 < ts.length
      · have hc := HQ.out (j + 1) (by omega)
        have hv : ¬ spd ts ((j : Int) + 1) ≤ x := by
          rw [← H2.out]
          have := HP.out.up j (j + 1) (by omega) (by omega)
          rw [show ((j + 1 : Nat) : Int) = (j : Int) + 1 by omega] at this; omega
        rw [show ((j + 1 : Nat) : Int) = (j : Int) + 1 by omega] at hc
        go_wp2
        go_region
        go_wp2
        refine bodyPost_ret (by simp [results, Try.results57, go_sem, *] <;> rfl) rfl ?_
        exact ⟨rfl, (by first | (go_grown; done) | (refine bdrewN ?_ _; go_grown; done) | (go_grown <;> (refine bdrewN ?_ _; go_grown; done)))⟩
      · go_wp2
        go_region
        go_wp2
        refine bodyPost_ret (by simp [results, Try.results57, go_sem, *] <;> rfl) rfl ?_
        exact ⟨rfl, (by first | (go_grown; done) | (refine bdrewN ?_ _; go_grown; done) | (go_grown <;> (refine bdrewN ?_ _; go_grown; done)))⟩
set_option maxHeartbeats 4000000 in
theorem l20Level_inner (A1 A2 : Option Addr) (c1 c2 : Nat) (ts ls : List Int) (x : Int) (k : Nat) (w : World) (h : ProfAt w A1 c1 A2 c2 ts ls) (p : GauOk ts ls) (h1 : k + 1 < ts.length) (hk : LvOk ts ls x k) :
    Calls Try.prog 57 #[profV A1 ts.length c1 A2 ls.length c2, .int .i64 x] w fun e w' => e = .returned (ivV (spd ls k + (spd ls ((k : Int) + 1) - spd ls k) * (x - spd ts k) / (spd ts ((k : Int) + 1) - spd ts k)) (spd ls k + -(-((spd ls ((k : Int) + 1) - spd ls k) * (x - spd ts k)) / (spd ts ((k : Int) + 1) - spd ts k)))) ∧ Below w.heap.size w w' := by
  have l1 := p.l1; have l2 := p.l2; have l3 := p.l3; have l4 := p.l4
  obtain ⟨g1, g2, g3, g4, g5, g6, g7, g8, g9, g10, g11⟩ := hk
  obtain ⟨b1, o1, rfl, hb1, q1⟩ := h.1.spd (by omega)
  obtain ⟨b2, o2, rfl, hb2, q2⟩ := h.2.spd (by omega)
  have kk : ((k + 1 : Nat) : Int) = (k : Int) + 1 := by omega
  have d0 := q1 k (by omega); have d1 := q1 (k + 1) (by omega)
  have s0 := q2 k (by omega); have s1 := q2 (k + 1) (by omega)
  rw [kk] at d1 s1
  obtain ⟨f1, f2⟩ := div_bd (b := spd ts ((k : Int) + 1) - spd ts k) (by omega) g10 g11
  obtain ⟨f3, f4⟩ := div_bd (a := -((spd ls ((k : Int) + 1) - spd ls k) * (x - spd ts k))) (b := spd ts ((k : Int) + 1) - spd ts k) (M := 4000000000) (by omega) (by omega) (by omega)
  have k0 : (0 : Int) ≤ k := by omega
  have k1 : (k : Int) < ts.length := by omega
  have k2 : (k : Int) < ls.length := by omega
  have k3 : (0 : Int) ≤ (k : Int) + 1 := by omega
  have k4 : (k : Int) + 1 < ts.length := by omega
  have k5 : (k : Int) + 1 < ls.length := by omega
  have k6 : ((k : Int) + 1).toNat = k + 1 := by omega
  have z0 : (spd ts k == x) = false := beq_eq_false_iff_ne.2 (by omega)
  have HP := Lib.hid p; have HQ := Lib.hid q1
  clear q1 q2 h p kk
  go_enter Try.func57, Try.ntmps57
  go_wp2
  go_loop [5] (fun i => ∃ j : Nat, j ≤ k ∧ i = .int .i64 j) (fun i => k - (intOf i).toNat)
  case atStart => exact ⟨0, by omega, rfl⟩
  case round =>
    obtain ⟨j, hj, rfl⟩ := hrel
    by_cases hlt : j < k
    · have hc := HQ.out (j + 1) (by omega)
      have hv : spd ts ((j : Int) + 1) ≤ x := by
        rcases Nat.lt_or_ge (j + 1) k with g | g
        · have := HP.out.up (j + 1) k g (by omega)
          rw [show ((j + 1 : Nat) : Int) = (j : Int) + 1 by omega] at this; omega
        · have e : (j : Int) + 1 = k := by omega
          rw [e]; omega
      rw [show ((j + 1 : Nat) : Int) = (j : Int) + 1 by omega] at hc
      have hlen : (j : Int) + 1 < ts.length := by omega
      clear d0 d1 s0 s1 f1 f2 f3 f4 g10 g11
      go_wp2
      go_round
      case rel => exact ⟨j + 1, by omega, by go_num⟩
      case measure => simp [intOf]; omega
    · obtain rfl : j = k := by omega
      have hv : ¬ spd ts ((j : Int) + 1) ≤ x := by omega
      go_wp2
      have W0 : IntKind.i64.wrap ((j : Int) + 1) = (j : Int) + 1 := IntWalk.i64_in _ (by omega)
      have W1 : IntKind.i64.wrap (spd ls ((j : Int) + 1) - spd ls j) = spd ls ((j : Int) + 1) - spd ls j := IntWalk.i64_in _ (by omega)
      have W2 : IntKind.i64.wrap (x - spd ts j) = x - spd ts j := IntWalk.i64_in _ (by omega)
      have W3 : IntKind.i64.wrap ((spd ls ((j : Int) + 1) - spd ls j) * (x - spd ts j)) = (spd ls ((j : Int) + 1) - spd ls j) * (x - spd ts j) := IntWalk.i64_in _ (by omega)
      have W4 : IntKind.i64.wrap (spd ts ((j : Int) + 1) - spd ts j) = spd ts ((j : Int) + 1) - spd ts j := IntWalk.i64_in _ (by omega)
      go_quiet (fail)
      clear W0 W1 W2 W3 W4
      go_wp2_with fail
      have W5 : IntKind.i64.wrap (spd ls j + (spd ls ((j : Int) + 1) - spd ls j) * (x - spd ts j) / (spd ts ((j : Int) + 1) - spd ts j)) = spd ls j + (spd ls ((j : Int) + 1) - spd ls j) * (x - spd ts j) / (spd ts ((j : Int) + 1) - spd ts j) := IntWalk.i64_in _ (by omega)
      have W6 : IntKind.i64.wrap (spd ls j + -(-((spd ls ((j : Int) + 1) - spd ls j) * (x - spd ts j)) / (spd ts ((j : Int) + 1) - spd ts j))) = spd ls j + -(-((spd ls ((j : Int) + 1) - spd ls j) * (x - spd ts j)) / (spd ts ((j : Int) + 1) - spd ts j)) := IntWalk.i64_in _ (by omega)
      have fb : 0 < spd ts ((j : Int) + 1) - spd ts j ∧ spd ts ((j : Int) + 1) - spd ts j ≤ 9000000000000000000 ∧ -9000000000000000000 ≤ (spd ls ((j : Int) + 1) - spd ls j) * (x - spd ts j) ∧ (spd ls ((j : Int) + 1) - spd ls j) * (x - spd ts j) ≤ 9000000000000000000 := by omega
      obtain ⟨F1, F2, F3, F4⟩ := fb
      have nb1 : b2 ≠ w.heap.size + 1 := by omega
      have nb2 : w.heap.size + 1 ≠ b2 := by omega
      go_region_held3 (fun w' => (w'.cell? ⟨w.heap.size, 1, none⟩ = some (.slice (some ⟨b2, o2, none⟩) ls.length c2)) ∧ w'.cell? ⟨b2, o2 + j, none⟩ = some (.int .i64 (spd ls j))) (first | (go_keep; done) | (simp [*, go_sem]; done))
        (first
          | (go_at_call 41; refine (specFloor_any _ _ _ F1 F2 F3 F4).mono ?_; rintro e w' ⟨rfl, rfl⟩)
          | (go_at_call 42; refine (specCeil_any _ _ _ F1 F2 F3 F4).mono ?_; rintro e w' ⟨rfl, rfl⟩))
      clear W5 W6
      go_wp2
      refine bodyPost_ret (by simp [results, Try.results57, go_sem, *] <;> rfl) rfl ?_
      exact ⟨rfl, (by first | (go_grown; done) | (refine bdrewN ?_ _; go_grown; done) | (go_grown <;> (refine bdrewN ?_ _; go_grown; done)))⟩
set_option maxHeartbeats 4000000 in
theorem specLevelAt_any (A1 A2 : Option Addr) (c1 c2 : Nat) (ts ls : List Int) (x : Int) (w : World) (h : ProfAt w A1 c1 A2 c2 ts ls) :
    Calls Try.prog 26 #[profV A1 ts.length c1 A2 ls.length c2, .int .i64 x] w fun e w' => e = .returned (.tuple #[ivV (lvLo ts ls x) (lvHi ts ls x), .int .i64 (lvE ts ls x)]) ∧ Below w.heap.size w w' := by
  by_cases hp : gauB ts ls = true
  · obtain ⟨e0, e1, e2⟩ := lv_good (x := x) hp
    have p := gauOk_of hp
    by_cases hin : inB x 0 1000000 = true
    · have hb := bs_at p x
      obtain ⟨i, hi⟩ : ∃ i, bsI ts x = i := ⟨_, rfl⟩
      rw [hi] at hb
      have l1 := p.l1; have l2 := p.l2; have l3 := p.l3; have l4 := p.l4; have le := hb.le
      obtain ⟨b1, o1, rfl, hb1, q1⟩ := h.1.spd (by omega)
      have d0 := q1 0 (by omega)
      obtain ⟨m, hm⟩ : ∃ m : Nat, ts.length = m + 1 := ⟨ts.length - 1, by omega⟩
      have d1 : w.cell? ⟨b1, o1 + (ts.length - 1), none⟩ = some (.int .i64 (spd ts m)) := by rw [show ts.length - 1 = m by omega]; exact q1 m (by omega)
      have hm1 : (ts.length : Int) - 1 = m := by omega
      have hm2 : (m : Int) < ts.length := by omega
      have hm3 : (0 : Int) < ts.length := by omega
      have hm4 : 0 < ts.length := by omega
      have hm5 : (0 : Int) ≤ (ts.length : Int) - 1 := by omega
      have hm6 : ((ts.length : Int) - 1).toNat = ts.length - 1 := by omega
      have hm7 : (1 : Int) ≤ ts.length := by omega
      have hm8 : (ts.length : Int) - 1 < ts.length := by omega
      have hm0 : (0 : Int) ≤ m := by omega
      have d0 : w.cell? ⟨b1, o1, none⟩ = some (.int .i64 (spd ts 0)) := by simpa using d0
      by_cases hf : i < ts.length ∧ spd ts i = x
      · obtain ⟨e3, e4, e5⟩ := lv_found (ls := ls) hin hi hf.1 hf.2
        have hio : inB x (spd ts 0) (spd ts m) = true := by
          have u1 : spd ts 0 ≤ x := by
            rcases Nat.eq_zero_or_pos i with g | g
            · subst g; have := hf.2; simpa using (by omega : spd ts ((0 : Nat) : Int) ≤ x)
            · have := p.up 0 i g hf.1; have := hf.2; simpa using (by omega : spd ts ((0 : Nat) : Int) ≤ x)
          have u2 : x ≤ spd ts m := by
            rcases Nat.lt_or_ge i m with g | g
            · have := p.up i m g (by omega); have := hf.2; omega
            · have e : i = m := by omega
              rw [← e]; have := hf.2; omega
          simp [inB]; omega
        have H := Lib.hid h; have HF := Lib.hid hf; have PP := Lib.hid p
        have E0 := Lib.hid e0; have E1 := Lib.hid e1; have E2 := Lib.hid e2; have E3 := Lib.hid e3; have E4 := Lib.hid e4; have E5 := Lib.hid e5
        clear q1 h hb hm hm1 hf hi p e0 e1 e2 e3 e4 e5
        go_enter Try.func26, Try.ntmps26
        go_wp2_with (first
          | (go_at_call 49; refine (specIsGauge_any _ _ _ _ _ _ _ ⟨(H.out.1.below (B := w.heap.size) (by first | exact Below.refl _ _ | (go_grown; done) | exact bdrewN (by go_grown) _) (Nat.le_refl _)), (H.out.2.below (B := w.heap.size) (by first | exact Below.refl _ _ | (go_grown; done) | exact bdrewN (by go_grown) _) (Nat.le_refl _))⟩).mono ?_; rintro e w1 ⟨rfl, hb1⟩; obtain ⟨B1, hz1, q1, s1, t1, x1, y1, z1⟩ := bkeep (w := w) [w.heap.size, w.heap.size + 1] (by first | (simp; done) | (simp; omega)) (by first | (go_grown; done) | exact bdrewN (by go_grown) _) hb1; (try simp at hz1); clear hb1)
          | (go_at_call 56; refine (l01In_any _ _ _ _).mono ?_; rintro e w' ⟨rfl, rfl⟩))
        have W0 : IntKind.i64.wrap ((ts.length : Int) - 1) = (ts.length : Int) - 1 := IntWalk.i64_in _ (by omega)
        have dd0 := (B1.cell (p := ⟨b1, o1, none⟩) hb1).trans d0
        have dd1 := (B1.cell (p := ⟨b1, o1 + (ts.length - 1), none⟩) hb1).trans d1
        go_quiet ((go_at_call 56; exact q_same (l01In_any _ _ _ _)))
        clear W0
        go_wp2_with (go_at_call 57; refine (l20Level_found _ _ _ _ _ _ _ i _ ⟨(H.out.1.below (B := w.heap.size) (by first | exact Below.refl _ _ | (go_grown; done) | exact bdrewN (by go_grown) _) (Nat.le_refl _)), (H.out.2.below (B := w.heap.size) (by first | exact Below.refl _ _ | (go_grown; done) | exact bdrewN (by go_grown) _) (Nat.le_refl _))⟩ PP.out HF.out.1 HF.out.2).mono ?_; rintro e w2 ⟨rfl, hb2⟩; obtain ⟨B2, hz2, q2, s2, t2, x2, y2, z2⟩ := bkeep (w := w) [w.heap.size, w.heap.size + 1] (by first | (simp; done) | (simp; omega)) (by first | (go_grown; done) | exact bdrewN (by go_grown) _) hb2; (try simp at hz2); clear hb2)
        refine bodyPost_ret (by simp [results, Try.results26, go_sem, *] <;> rfl) rfl ?_
        exact ⟨by rw [E0.out, E1.out, E2.out, E3.out, E4.out, E5.out], (by first | with_reducible exact B2 | (go_grown; done) | with_reducible exact bdrewN B2 _ | (go_grown <;> first | with_reducible exact bdrewN B2 _ | with_reducible exact B2))⟩
      · by_cases hz : i = 0 ∨ i = ts.length
        · obtain ⟨e3, e4, e5⟩ := lv_edge (ls := ls) hin hi hf hz
          have hio : inB x (spd ts 0) (spd ts m) = false := by
            rcases hz with g | g
            · subst g
              have := hb.hi 0 (by omega) (by omega)
              have u : ¬ spd ts ((0 : Nat) : Int) = x := fun u => hf ⟨by omega, u⟩
              have u3 : x < spd ts 0 := by simpa using (by omega : x < spd ts ((0 : Nat) : Int))
              simp [inB]; omega
            · have := hb.lo m (by omega)
              simp [inB]; omega
          have H := Lib.hid h; have PP := Lib.hid p
          have E0 := Lib.hid e0; have E1 := Lib.hid e1; have E2 := Lib.hid e2; have E3 := Lib.hid e3; have E4 := Lib.hid e4; have E5 := Lib.hid e5
          clear q1 h hb hm hm1 hf hi p e0 e1 e2 e3 e4 e5 hz
          go_enter Try.func26, Try.ntmps26
          go_wp2_with (first
            | (go_at_call 49; refine (specIsGauge_any _ _ _ _ _ _ _ ⟨(H.out.1.below (B := w.heap.size) (by first | exact Below.refl _ _ | (go_grown; done) | exact bdrewN (by go_grown) _) (Nat.le_refl _)), (H.out.2.below (B := w.heap.size) (by first | exact Below.refl _ _ | (go_grown; done) | exact bdrewN (by go_grown) _) (Nat.le_refl _))⟩).mono ?_; rintro e w1 ⟨rfl, hb1⟩; obtain ⟨B1, hz1, q1, s1, t1, x1, y1, z1⟩ := bkeep (w := w) [w.heap.size, w.heap.size + 1] (by first | (simp; done) | (simp; omega)) (by first | (go_grown; done) | exact bdrewN (by go_grown) _) hb1; (try simp at hz1); clear hb1)
            | (go_at_call 56; refine (l01In_any _ _ _ _).mono ?_; rintro e w' ⟨rfl, rfl⟩))
          have W0 : IntKind.i64.wrap ((ts.length : Int) - 1) = (ts.length : Int) - 1 := IntWalk.i64_in _ (by omega)
          have dd0 := (B1.cell (p := ⟨b1, o1, none⟩) hb1).trans d0
          have dd1 := (B1.cell (p := ⟨b1, o1 + (ts.length - 1), none⟩) hb1).trans d1
          go_quiet ((go_at_call 56; exact q_same (l01In_any _ _ _ _)))
          clear W0
          go_wp2_with fail
          refine bodyPost_ret (by simp [results, Try.results26, go_sem, *] <;> rfl) rfl ?_
          exact ⟨by rw [E0.out, E1.out, E2.out, E3.out, E4.out, E5.out], by first | exact (by first | with_reducible exact B1 | (go_grown; done) | with_reducible exact bdrewN B1 _ | (go_grown <;> first | with_reducible exact bdrewN B1 _ | with_reducible exact B1)) | exact bdrewN B1 _⟩
        · obtain ⟨k, rfl⟩ : ∃ k, i = k + 1 := ⟨i - 1, by omega⟩
          have hlt : k + 1 < ts.length := by omega
          have hne : spd ts ((k : Int) + 1) ≠ x := fun g => hf ⟨hlt, by rw [show ((k + 1 : Nat) : Int) = (k : Int) + 1 by omega]; exact g⟩
          obtain ⟨e3, e4, e5⟩ := lv_inner (ls := ls) hin hi hlt hne
          have hk := lvOk p hi hlt hne
          have hio : inB x (spd ts 0) (spd ts m) = true := by
            have u1 := hb.lo 0 (by omega)
            have u1 : spd ts 0 < x := by simpa using u1
            have u2 := hb.hi m (by omega) (by omega)
            simp [inB]; omega
          have H := Lib.hid h; have HK := Lib.hid hk; have PP := Lib.hid p
          have E0 := Lib.hid e0; have E1 := Lib.hid e1; have E2 := Lib.hid e2; have E3 := Lib.hid e3; have E4 := Lib.hid e4; have E5 := Lib.hid e5
          clear q1 h hb hm hm1 hf hi p e0 e1 e2 e3 e4 e5 hz hne hk
          go_enter Try.func26, Try.ntmps26
          go_wp2_with (first
            | (go_at_call 49; refine (specIsGauge_any _ _ _ _ _ _ _ ⟨(H.out.1.below (B := w.heap.size) (by first | exact Below.refl _ _ | (go_grown; done) | exact bdrewN (by go_grown) _) (Nat.le_refl _)), (H.out.2.below (B := w.heap.size) (by first | exact Below.refl _ _ | (go_grown; done) | exact bdrewN (by go_grown) _) (Nat.le_refl _))⟩).mono ?_; rintro e w1 ⟨rfl, hb1⟩; obtain ⟨B1, hz1, q1, s1, t1, x1, y1, z1⟩ := bkeep (w := w) [w.heap.size, w.heap.size + 1] (by first | (simp; done) | (simp; omega)) (by first | (go_grown; done) | exact bdrewN (by go_grown) _) hb1; (try simp at hz1); clear hb1)
            | (go_at_call 56; refine (l01In_any _ _ _ _).mono ?_; rintro e w' ⟨rfl, rfl⟩))
          have W0 : IntKind.i64.wrap ((ts.length : Int) - 1) = (ts.length : Int) - 1 := IntWalk.i64_in _ (by omega)
          have dd0 := (B1.cell (p := ⟨b1, o1, none⟩) hb1).trans d0
          have dd1 := (B1.cell (p := ⟨b1, o1 + (ts.length - 1), none⟩) hb1).trans d1
          go_quiet ((go_at_call 56; exact q_same (l01In_any _ _ _ _)))
          clear W0
          go_wp2_with (go_at_call 57; refine (l20Level_inner _ _ _ _ _ _ _ k _ ⟨(H.out.1.below (B := w.heap.size) (by first | exact Below.refl _ _ | (go_grown; done) | exact bdrewN (by go_grown) _) (Nat.le_refl _)), (H.out.2.below (B := w.heap.size) (by first | exact Below.refl _ _ | (go_grown; done) | exact bdrewN (by go_grown) _) (Nat.le_refl _))⟩ PP.out hlt HK.out).mono ?_; rintro e w2 ⟨rfl, hb2⟩; obtain ⟨B2, hz2, q2, s2, t2, x2, y2, z2⟩ := bkeep (w := w) [w.heap.size, w.heap.size + 1] (by first | (simp; done) | (simp; omega)) (by first | (go_grown; done) | exact bdrewN (by go_grown) _) hb2; (try simp at hz2); clear hb2)
          refine bodyPost_ret (by simp [results, Try.results26, go_sem, *] <;> rfl) rfl ?_
          exact ⟨by rw [E0.out, E1.out, E2.out, E3.out, E4.out, E5.out], (by first | with_reducible exact B2 | (go_grown; done) | with_reducible exact bdrewN B2 _ | (go_grown <;> first | with_reducible exact bdrewN B2 _ | with_reducible exact B2))⟩
    · obtain ⟨e3, e4, e5⟩ := lv_out (ts := ts) (ls := ls) hin
      have hin' : inB x 0 1000000 = false := by simpa using hin
      have H := Lib.hid h; have E0 := Lib.hid e0; have E1 := Lib.hid e1; have E2 := Lib.hid e2; have E3 := Lib.hid e3; have E4 := Lib.hid e4; have E5 := Lib.hid e5
      clear h p e0 e1 e2 e3 e4 e5 hin
      go_enter Try.func26, Try.ntmps26
      go_wp2_with (first
        | (go_at_call 49; refine (specIsGauge_any _ _ _ _ _ _ _ ⟨(H.out.1.below (B := w.heap.size) (by first | exact Below.refl _ _ | (go_grown; done) | exact bdrewN (by go_grown) _) (Nat.le_refl _)), (H.out.2.below (B := w.heap.size) (by first | exact Below.refl _ _ | (go_grown; done) | exact bdrewN (by go_grown) _) (Nat.le_refl _))⟩).mono ?_; rintro e w1 ⟨rfl, hb1⟩; obtain ⟨B1, hz1, q1, s1, t1, x1, y1, z1⟩ := bkeep (w := w) [w.heap.size, w.heap.size + 1] (by first | (simp; done) | (simp; omega)) (by first | (go_grown; done) | exact bdrewN (by go_grown) _) hb1; (try simp at hz1); clear hb1)
        | (go_at_call 56; refine (l01In_any _ _ _ _).mono ?_; rintro e w' ⟨rfl, rfl⟩))
      refine bodyPost_ret (by simp [results, Try.results26, go_sem, *] <;> rfl) rfl ?_
      exact ⟨by rw [E0.out, E1.out, E2.out, E3.out, E4.out, E5.out], (by first | with_reducible exact B1 | (go_grown; done) | with_reducible exact bdrewN B1 _ | (go_grown <;> first | with_reducible exact bdrewN B1 _ | with_reducible exact B1))⟩
  · have hp' : gauB ts ls = false := by simpa using hp
    obtain ⟨e0, e1, e2⟩ := lv_bad (x := x) hp'
    have H := Lib.hid h; have E0 := Lib.hid e0; have E1 := Lib.hid e1; have E2 := Lib.hid e2; clear h e0 e1 e2 hp
    go_enter Try.func26, Try.ntmps26
    go_wp2_with (go_at_call 49; refine (specIsGauge_any _ _ _ _ _ _ _ ⟨(H.out.1.below (B := w.heap.size) (by first | exact Below.refl _ _ | (go_grown; done) | exact bdrewN (by go_grown) _) (Nat.le_refl _)), (H.out.2.below (B := w.heap.size) (by first | exact Below.refl _ _ | (go_grown; done) | exact bdrewN (by go_grown) _) (Nat.le_refl _))⟩).mono ?_; rintro e w1 ⟨rfl, hb1⟩; obtain ⟨B1, hz1, q1, s1, t1, x1, y1, z1⟩ := bkeep (w := w) [w.heap.size, w.heap.size + 1] (by first | (simp; done) | (simp; omega)) (by first | (go_grown; done) | exact bdrewN (by go_grown) _) hb1; (try simp at hz1); clear hb1)
    refine bodyPost_ret (by simp [results, Try.results26, go_sem, *] <;> rfl) rfl ?_
    exact ⟨by rw [E0.out, E1.out, E2.out], (by first | with_reducible exact B1 | (go_grown; done) | with_reducible exact bdrewN B1 _ | (go_grown <;> first | with_reducible exact bdrewN B1 _ | with_reducible exact B1))⟩
end Go.Proofs.Ytjabldjffpjkeaa
