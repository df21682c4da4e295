/- Gauges: valid or not, by the program and by the reference; copied, compared, measured, marked, held. -/
import Derived.Test.YtebdokpokbcgjaaDoorMark
namespace Go.Proofs.YtebdokpokbcgjaaDoor
set_option linter.unusedSimpArgs false
set_option linter.unusedVariables false
open Go.RowKit

/-- a valid gauge -/
def gauB (ts ls : List Int) : Bool :=
  decide (1 ≤ ts.length) && decide (ts.length ≤ 40) && risB ts 1000001 && decide (ls.length = ts.length) && ls.all (inB · (-2000) 2000)

set_option maxHeartbeats 2000000 in
theorem implIsGauge_any (A1 A2 : Option Addr) (c1 c2 : Nat) (ts ls : List Int) (w : World) (h : ProfAt w A1 c1 A2 c2 ts ls) :
    Calls Tryd.prog 33 #[profV A1 ts.length c1 A2 ls.length c2] w fun e w' => e = .returned (.bool (gauB ts ls)) ∧ Below w.heap.size w w' := by
  have hn1 := Nat.le_trans h.1.1 h.1.2.1
  have hn2 := Nat.le_trans h.2.1 h.2.2.1
  have I1 : ∀ o, IntsAt (w.alloc o) A1 c1 ts := fun o => h.1.below ((Below.refl w.heap.size w).alloc (Nat.le_refl _) o) (Nat.le_refl _)
  have I2 : ∀ o, IntsAt (w.alloc o) A2 c2 ls := fun o => h.2.below ((Below.refl w.heap.size w).alloc (Nat.le_refl _) o) (Nat.le_refl _)
  have J1 := Lib.hid I1; have J2 := Lib.hid I2; clear I1 I2 h
  by_cases hA : inB ts.length 1 40 = true
  · have hA' := inB_bd hA
    by_cases hR : risB ts 1000001 = true
    · by_cases hB : ls.length = ts.length
      · have hB1 : ((ls.length : Int) == (ts.length : Int)) = true := beq_iff_eq.2 (by omega)
        have HB := Lib.hid hB
        clear hB
        go_enter Tryd.func33, Tryd.ntmps33
        go_wp2_with (first
          | (go_at_call 76; refine (length_any _ _ _ _ hn1).mono ?_; rintro e w' ⟨rfl, rfl⟩)
          | (go_at_call 73; refine (within_any _ _ _ _).mono ?_; rintro e w' ⟨rfl, rfl⟩)
          | (go_at_call 77; refine (isRising_any _ _ _ _ _ (J1.out _)).mono ?_; rintro e w' ⟨rfl, rfl⟩)
          | (go_at_call 78; refine (areWithin_any _ _ _ _ _ _ (J2.out _)).mono ?_; rintro e w' ⟨rfl, rfl⟩))
        go_ret
        exact ⟨ret_bool (by simp [gauB, hR, HB.out]; omega), by go_grown⟩
      · have hB1 : ((ls.length : Int) == (ts.length : Int)) = false := beq_eq_false_iff_ne.2 (by omega)
        go_enter Tryd.func33, Tryd.ntmps33
        go_wp2_with (first
          | (go_at_call 76; refine (length_any _ _ _ _ hn1).mono ?_; rintro e w' ⟨rfl, rfl⟩)
          | (go_at_call 73; refine (within_any _ _ _ _).mono ?_; rintro e w' ⟨rfl, rfl⟩)
          | (go_at_call 77; refine (isRising_any _ _ _ _ _ (J1.out _)).mono ?_; rintro e w' ⟨rfl, rfl⟩))
        go_ret
        exact ⟨ret_bool (by simp [gauB, hB]), by go_grown⟩
    · go_enter Tryd.func33, Tryd.ntmps33
      go_wp2_with (first
        | (go_at_call 76; refine (length_any _ _ _ _ hn1).mono ?_; rintro e w' ⟨rfl, rfl⟩)
        | (go_at_call 73; refine (within_any _ _ _ _).mono ?_; rintro e w' ⟨rfl, rfl⟩)
        | (go_at_call 77; refine (isRising_any _ _ _ _ _ (J1.out _)).mono ?_; rintro e w' ⟨rfl, rfl⟩))
      go_ret
      exact ⟨ret_bool (by simp [gauB, hR]), by go_grown⟩
  · go_enter Tryd.func33, Tryd.ntmps33
    go_wp2_with (first
      | (go_at_call 76; refine (length_any _ _ _ _ hn1).mono ?_; rintro e w' ⟨rfl, rfl⟩)
      | (go_at_call 73; refine (within_any _ _ _ _).mono ?_; rintro e w' ⟨rfl, rfl⟩))
    go_ret
    exact ⟨ret_bool (by simp [gauB, inB] at hA ⊢; intros; omega), by go_grown⟩

set_option maxHeartbeats 2000000 in
theorem specIsGauge_any (A1 A2 : Option Addr) (c1 c2 : Nat) (ts ls : List Int) (w : World) (h : ProfAt w A1 c1 A2 c2 ts ls) :
    Calls Tryd.prog 48 #[profV A1 ts.length c1 A2 ls.length c2] w fun e w' => e = .returned (.bool (gauB ts ls)) ∧ Below w.heap.size w w' := by
  have hn1 := Nat.le_trans h.1.1 h.1.2.1
  have hn2 := Nat.le_trans h.2.1 h.2.2.1
  have H1 := Lib.hid h.1; have H2 := Lib.hid h.2; clear h
  by_cases d1 : (0 : Int) < (ts.length : Int)
  · by_cases d2 : (ts.length : Int) ≤ 40
    · by_cases hR : risB ts 1000001 = true
      · by_cases hB : ls.length = ts.length
        · have hB1 : ((ls.length : Int) == (ts.length : Int)) = true := beq_iff_eq.2 (by omega)
          have HB := Lib.hid hB
          clear hB
          go_enter Tryd.func48, Tryd.ntmps48
          go_wp2_with (first
            | (go_at_call 85; refine (l01Rises_any _ _ _ _ _ (H1.out.below (B := w.heap.size) (by go_grown) (Nat.le_refl _))).mono ?_; rintro e w1 ⟨rfl, hb1⟩; obtain ⟨B1, hz1, q1, s1, t1, x1, y1, z1⟩ := bkeep (w := w) [w.heap.size] (by first | (simp; done) | (simp; omega)) (by first | (go_grown; done) | exact bdrewN (by go_grown) _) hb1; (try simp at hz1); clear hb1)
            | (go_at_call 86; refine (l01Within_any _ _ _ _ _ _ _ (H2.out.below B1 (Nat.le_refl _))).mono ?_; rintro e w' ⟨rfl, rfl⟩))
          go_ret
          exact ⟨ret_bool (by have hB := HB.out
                              have e13 : (ls.length : Int) ≤ 40 := by omega
                              have e14 : 1 ≤ ts.length := by omega
                              have e15 : ts.length ≤ 40 := by omega
                              simp [gauB, hR, hB, e14, e15]; intros; omega), B1⟩
        · have hB1 : ((ls.length : Int) == (ts.length : Int)) = false := beq_eq_false_iff_ne.2 (by omega)
          go_enter Tryd.func48, Tryd.ntmps48
          go_wp2_with (first
            | (go_at_call 85; refine (l01Rises_any _ _ _ _ _ (H1.out.below (B := w.heap.size) (by go_grown) (Nat.le_refl _))).mono ?_; rintro e w1 ⟨rfl, hb1⟩; obtain ⟨B1, hz1, q1, s1, t1, x1, y1, z1⟩ := bkeep (w := w) [w.heap.size] (by first | (simp; done) | (simp; omega)) (by first | (go_grown; done) | exact bdrewN (by go_grown) _) hb1; (try simp at hz1); clear hb1))
          go_ret
          exact ⟨ret_bool (by simp [gauB, hB]), B1⟩
      · go_enter Tryd.func48, Tryd.ntmps48
        go_wp2_with (first
          | (go_at_call 85; refine (l01Rises_any _ _ _ _ _ (H1.out.below (B := w.heap.size) (by go_grown) (Nat.le_refl _))).mono ?_; rintro e w1 ⟨rfl, hb1⟩; obtain ⟨B1, hz1, q1, s1, t1, x1, y1, z1⟩ := bkeep (w := w) [w.heap.size] (by first | (simp; done) | (simp; omega)) (by first | (go_grown; done) | exact bdrewN (by go_grown) _) hb1; (try simp at hz1); clear hb1))
        go_ret
        exact ⟨ret_bool (by simp [gauB, hR]), B1⟩
    · go_enter Tryd.func48, Tryd.ntmps48
      go_wp2
      go_ret
      exact ⟨ret_bool (by simp [gauB]; intros; omega), by go_grown⟩
  · go_enter Tryd.func48, Tryd.ntmps48
    go_wp2
    go_ret
    exact ⟨ret_bool (by simp [gauB]; intros; omega), by go_grown⟩

structure GauIs (ts ls : List Int) : Prop where
  l1 : 1 ≤ ts.length
  l2 : ts.length ≤ 40
  l3 : ls.length = ts.length
  t : ∀ (k : Nat) x, ts[k]? = some x → 0 ≤ x ∧ x ≤ 1000000
  up : ∀ (k : Nat) x y, ts[k]? = some x → ts[k + 1]? = some y → x < y
  v : ∀ (k : Nat) x, ls[k]? = some x → -2000 ≤ x ∧ x ≤ 2000
theorem gau_is {ts ls : List Int} (h : gauB ts ls = true) : GauIs ts ls := by
  simp only [gauB, Bool.and_eq_true, decide_eq_true_eq] at h
  obtain ⟨⟨⟨⟨h1, h2⟩, h3⟩, h4⟩, h5⟩ := h
  refine ⟨h1, h2, h4, fun k x hx => ?_, fun k x y hx hy => ris_lt h3 hx hy, fun k x hx => ?_⟩
  · have := ris_in h3 hx; omega
  · exact inB_bd (List.all_eq_true.1 h5 x (List.mem_of_getElem? hx))

set_option maxHeartbeats 1000000 in
theorem toGauge_any (A1 A2 : Option Addr) (c1 c2 : Nat) (ds ss : List Int) (w : World) (h1 : IntsAt w A1 c1 ds) (h2 : IntsAt w A2 c2 ss) (l1 : ds.length ≤ 1048576) (l2 : ss.length ≤ 1048576) :
    Calls Tryd.prog 11 #[profV A1 ds.length c1 A2 ss.length c2] w fun e w' =>
      (∃ g g', e = .returned (profV (some ⟨g, 0, none⟩) ds.length ds.length (some ⟨g', 0, none⟩) ss.length ss.length) ∧ ResP w' w.heap.size w'.heap.size (some ⟨g, 0, none⟩) ds.length (some ⟨g', 0, none⟩) ss.length ds ss) ∧ Below w.heap.size w w' := by
  have H1 := Lib.hid h1; have H2 := Lib.hid h2; clear h1 h2
  go_enter Tryd.func11, Tryd.ntmps11
  go_wp2_with fail
  refine (toInt64S_any _ _ _ _ (H1.out.below (B := w.heap.size) (by go_grown) (Nat.le_refl _)) l1).mono ?_; rintro e w1 ⟨⟨g1, rfl, R1⟩, hb1⟩
  obtain ⟨B1, hz1, q1, s1, t1, x1, y1, z1⟩ := bkeep (w := w) [w.heap.size, w.heap.size + 1, w.heap.size + 2] (by first | (simp; done) | (simp; omega)) (by first | (go_grown; done) | exact bdrewN (by go_grown) _) hb1; (try simp at hz1); clear hb1
  have K1 := Lib.hid R1; clear R1
  go_wp2_with fail
  refine (toInt64S_any _ _ _ _ (H2.out.below (B := w.heap.size) (by go_grown) (Nat.le_refl _)) l2).mono ?_; rintro e w2 ⟨⟨g2, rfl, R2⟩, hb2⟩
  have T2 := Lib.hid hb2
  obtain ⟨B2, hz2, q2, s2, t2, x2, y2, z2⟩ := bkeep (w := w) [w.heap.size, w.heap.size + 1, w.heap.size + 2] (by first | (simp; done) | (simp; omega)) (by first | (go_grown; done) | exact bdrewN (by go_grown) _) hb2; (try simp at hz2); clear hb2
  have K2 := Lib.hid R2; clear R2
  go_wp2_with fail
  refine bodyPost_ret (by simp [results, Tryd.results11, go_sem, *] <;> rfl) rfl ?_
  have e1 := K1.out; have e2 := K2.out; have e3 := T2.out
  simp only [size_set, World.size_alloc] at e1 e2 e3
  refine ⟨⟨g1, g2, rfl, ResP.mk_ ((e1.kept ?_).mono (by omega) (Nat.le_refl _)) ((e2.kept ?_).mono (Nat.le_refl _) (by simp only [size_set]; omega)) (by omega) (by simp only [size_set]; omega)⟩, by go_grown⟩
  · exact ((((Keep.refl _ _ _).set (by simp) _).below e3 (Nat.le_refl _)).set (by simp) _).set (by simp) _ |>.set (by simp) _
  · exact (((Keep.refl _ _ _).set (by simp; omega) _).set (by simp; omega) _).set (by simp; omega) _

set_option maxHeartbeats 1000000 in
theorem eqGauge_same (A1 A2 A3 A4 : Option Addr) (c1 c2 c3 c4 : Nat) (ds ss : List Int) (w : World) (h : ProfAt w A1 c1 A2 c2 ds ss) (h' : ProfAt w A3 c3 A4 c4 ds ss) :
    Calls Tryd.prog 13 #[profV A1 ds.length c1 A2 ss.length c2, profV A3 ds.length c3 A4 ss.length c4] w fun e w' => e = .returned (.bool true) ∧ Below w.heap.size w w' := by
  have H := Lib.hid h; have H' := Lib.hid h'; clear h h'
  go_enter Tryd.func13, Tryd.ntmps13
  go_wp2_with fail
  (refine (eqInt64S_same _ _ _ _ _ _ (H.out.1.below (B := w.heap.size) (by go_grown) (Nat.le_refl _)) (H'.out.1.below (B := w.heap.size) (by go_grown) (Nat.le_refl _))).mono ?_; rintro e w1 ⟨rfl, hb1⟩; obtain ⟨B1, hz1, q1, s1, t1, x1, y1, z1⟩ := bkeep (w := w) [w.heap.size, w.heap.size + 1] (by first | (simp; done) | (simp; omega)) (by first | (go_grown; done) | exact bdrewN (by go_grown) _) hb1; (try simp at hz1); clear hb1)
  go_wp2_with fail
  (refine (eqInt64S_same _ _ _ _ _ _ (H.out.2.below B1 (Nat.le_refl _)) (H'.out.2.below B1 (Nat.le_refl _))).mono ?_; rintro e w2 ⟨rfl, hb2⟩; obtain ⟨B2, hz2, q2, s2, t2, x2, y2, z2⟩ := bkeep (w := w) [w.heap.size, w.heap.size + 1] (by first | (simp; done) | (simp; omega)) (by first | (go_grown; done) | exact bdrewN (by go_grown) _) hb2; (try simp at hz2); clear hb2)
  go_wp2
  go_ret
  exact ⟨rfl, B2⟩

set_option maxHeartbeats 1000000 in
theorem szGauge_any (A1 A2 : Option Addr) (c1 c2 n1 n2 : Nat) (l : Int) (w : World) (h0 : 0 ≤ l) (h1 : l ≤ 1048576) (hn1 : n1 ≤ 9223372036854775807) (hn2 : n2 ≤ 9223372036854775807) :
    Calls Tryd.prog 9 #[profV A1 n1 c1 A2 n2 c2, .int .i64 l] w fun e w' => e = .returned (.int .i64 (if l - n1 < 0 then -1 else if l - n1 - n2 < 0 then -1 else l - n1 - n2)) ∧ Below w.heap.size w w' := by
  by_cases g1 : l - n1 < 0
  · go_enter Tryd.func9, Tryd.ntmps9
    go_wp2_with (go_at_call 47; refine (szInt64S_any _ _ _ _ _ (by omega) (by omega) (by omega)).mono ?_; rintro e w' ⟨rfl, rfl⟩)
    go_ret
    exact ⟨ret_int (by simp [g1]), by go_grown⟩
  · by_cases g2 : l - n1 - n2 < 0
    all_goals
      go_enter Tryd.func9, Tryd.ntmps9
      go_wp2_with (go_at_call 47; refine (szInt64S_any _ _ _ _ _ (by omega) (by omega) (by omega)).mono ?_; rintro e w' ⟨rfl, rfl⟩)
      go_ret
      exact ⟨ret_int (by simp [g1, g2]), by go_grown⟩
set_option maxHeartbeats 1000000 in
theorem markGauge_any (A1 A2 : Option Addr) (c1 c2 : Nat) (ds ss : List Int) (k0 : Int) (lo hi : Nat) (w : World) (hx : ResP w lo hi A1 c1 A2 c2 ds ss) (hl : lo ≤ hi) (hh : hi ≤ w.heap.size) (hk : 0 ≤ k0) (hk2 : k0 ≤ 1000000) (hl1 : ds.length ≤ 1048576) (hl2 : ss.length ≤ 1048576) :
    Calls Tryd.prog 21 #[profV A1 ds.length c1 A2 ss.length c2, .int .i64 k0] w fun e w' => e = .returned (.int .i64 (k0 + ds.length + ss.length)) ∧ ResP w' lo hi A1 c1 A2 c2 (seqI ds.length k0) (seqI ss.length (k0 + ds.length)) ∧ ChgB lo hi w w' := by
  obtain ⟨l1, h1, l2, h2, a1, a2, a3, a4, a5, a6, a7, R1, R2⟩ := hx.pins hl
  have hap := hx.2.2
  have HA := Lib.hid hap; have HR1 := Lib.hid R1; have HR2 := Lib.hid R2; clear hx hap R1 R2
  go_enter Tryd.func21, Tryd.ntmps21
  go_wp2_with fail
  have B0 : Below w.heap.size w (w.alloc (.cells #[.slice A1 ds.length c1, .slice A2 ss.length c2] 27)) := by go_grown
  refine (markInt64S_any _ _ _ _ l1 h1 _ (HR1.out.below B0 (by omega)) hk (by omega) (by omega)).mono ?_
  rintro e w1 ⟨rfl, S1, C1⟩
  have e1 : w1.cell? ⟨w.heap.size, 0, none⟩ = some (.slice A1 ds.length c1) := by rw [C1.old (by omega)]; simp [go_sem]
  have e2 : w1.cell? ⟨w.heap.size, 1, none⟩ = some (.slice A2 ss.length c2) := by rw [C1.old (by omega)]; simp [go_sem]
  have HS1 := Lib.hid S1; have HC1 := Lib.hid C1; have HB0 := Lib.hid B0; clear S1 C1 B0
  go_wp2_with fail
  refine (markInt64S_any _ _ _ _ l2 h2 _ ((HR2.out.below HB0.out (by omega)).chg HC1.out (by omega)) (by omega) (by omega) (by omega)).mono ?_
  rintro e w2 ⟨rfl, S2, C2⟩
  have HS2 := Lib.hid S2; have HC2 := Lib.hid C2; clear S2 C2
  go_wp2
  go_ret
  refine ⟨rfl, ⟨(HS1.out.chg HC2.out (by omega)).mono a1 a3, HS2.out.mono a4 a6, fun n1 n2 => HA.out ?_ ?_⟩, ?_⟩
  · intro e; apply n1; rw [e]; rfl
  · intro e; apply n2; rw [e]; rfl
  · exact ((ChgB.of_below HB0.out).trans (HC1.out.toB.mono a1 a3)).trans (HC2.out.toB.mono a4 a6)
set_option maxHeartbeats 1000000 in
theorem heldGauge_any (A1 A2 : Option Addr) (c1 c2 n1 n2 : Nat) (k0 : Int) (w : World) (hx : ProfAt w A1 c1 A2 c2 (seqI n1 k0) (seqI n2 (k0 + n1))) (hk : 0 ≤ k0) (hk2 : k0 ≤ 1000000) (hl1 : n1 ≤ 1048576) (hl2 : n2 ≤ 1048576) :
    Calls Tryd.prog 22 #[profV A1 n1 c1 A2 n2 c2, .int .i64 k0] w fun e w' => e = .returned (.int .i64 (k0 + n1 + n2)) ∧ Below w.heap.size w w' := by
  have H := Lib.hid hx; clear hx
  go_enter Tryd.func22, Tryd.ntmps22
  go_wp2_with fail
  refine (heldInt64S_any _ _ _ _ _ (H.out.1.below (B := w.heap.size) (by go_grown) (Nat.le_refl _)) hk (by omega) (by omega)).mono ?_; rintro e w' ⟨rfl, rfl⟩
  go_wp2_with fail
  refine (heldInt64S_any _ _ _ _ _ (H.out.2.below (B := w.heap.size) (by go_grown) (Nat.le_refl _)) (by omega) (by omega) (by omega)).mono ?_; rintro e w' ⟨rfl, rfl⟩
  go_wp2
  go_ret
  exact ⟨rfl, by go_grown⟩
end Go.Proofs.YtebdokpokbcgjaaDoor
