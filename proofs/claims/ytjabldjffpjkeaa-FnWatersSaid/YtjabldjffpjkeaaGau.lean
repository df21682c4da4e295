/- Gauges: valid or not, by the program and by the reference; copied, compared, measured, marked, held. -/
import Derived.Test.YtjabldjffpjkeaaMark
namespace Go.Proofs.Ytjabldjffpjkeaa
set_option linter.unusedSimpArgs false
set_option linter.unusedVariables false
open Go.RowKit

/-- a valid gauge -/
def gauB (ts ls : List Int) : Bool :=
  decide (1 ≤ ts.length) && decide (ts.length ≤ 40) && risB ts 1000001 && decide (ls.length = ts.length) && ls.all (inB · (-2000) 2000)

set_option maxHeartbeats 2000000 in
theorem implIsGauge_any (A1 A2 : Option Addr) (c1 c2 : Nat) (ts ls : List Int) (w : World) (h : ProfAt w A1 c1 A2 c2 ts ls) :
    Calls Try.prog 24 #[profV A1 ts.length c1 A2 ls.length c2] w fun e w' => e = .returned (.bool (gauB ts ls)) ∧ Below w.heap.size w w' := by
  have hn1 := Nat.le_trans h.1.1 h.1.2.1
  have hn2 := Nat.le_trans h.2.1 h.2.2.1
  have I1 : ∀ o, IntsAt (w.alloc o) A1 c1 ts := fun o => h.1.below ((Below.refl w.heap.size w).alloc (Nat.le_refl _) o) (Nat.le_refl _)
  have I2 : ∀ o, IntsAt (w.alloc o) A2 c2 ls := fun o => h.2.below ((Below.refl w.heap.size w).alloc (Nat.le_refl _) o) (Nat.le_refl _)
  have J1 := Lib.hid I1; have J2 := Lib.hid I2; clear I1 I2 h
  by_cases hA : inB ts.length 1 40 = true
  · have hA' := inB_bd hA
    by_cases hR : risB ts 1000001 = true
    · by_cases hB : ls.length = ts.length
      · have hB1 : ((ls.length : Int) == (ts.length : Int)) = true := beq_iff_eq.2 (by omega)
        have HB := Lib.hid hB
        clear hB
        go_enter Try.func24, Try.ntmps24
        go_wp2_with (first
          | (go_at_call 52; refine (length_any _ _ _ _ hn1).mono ?_; rintro e w' ⟨rfl, rfl⟩)
          | (go_at_call 51; refine (within_any _ _ _ _).mono ?_; rintro e w' ⟨rfl, rfl⟩)
          | (go_at_call 53; refine (isRising_any _ _ _ _ _ (J1.out _)).mono ?_; rintro e w' ⟨rfl, rfl⟩)
          | (go_at_call 54; refine (areWithin_any _ _ _ _ _ _ (J2.out _)).mono ?_; rintro e w' ⟨rfl, rfl⟩))
        go_ret
        exact ⟨ret_bool (by simp [gauB, hR, HB.out]; omega), by go_grown⟩
      · have hB1 : ((ls.length : Int) == (ts.length : Int)) = false := beq_eq_false_iff_ne.2 (by omega)
        go_enter Try.func24, Try.ntmps24
        go_wp2_with (first
          | (go_at_call 52; refine (length_any _ _ _ _ hn1).mono ?_; rintro e w' ⟨rfl, rfl⟩)
          | (go_at_call 51; refine (within_any _ _ _ _).mono ?_; rintro e w' ⟨rfl, rfl⟩)
          | (go_at_call 53; refine (isRising_any _ _ _ _ _ (J1.out _)).mono ?_; rintro e w' ⟨rfl, rfl⟩))
        go_ret
        exact ⟨ret_bool (by simp [gauB, hB]), by go_grown⟩
    · go_enter Try.func24, Try.ntmps24
      go_wp2_with (first
        | (go_at_call 52; refine (length_any _ _ _ _ hn1).mono ?_; rintro e w' ⟨rfl, rfl⟩)
        | (go_at_call 51; refine (within_any _ _ _ _).mono ?_; rintro e w' ⟨rfl, rfl⟩)
        | (go_at_call 53; refine (isRising_any _ _ _ _ _ (J1.out _)).mono ?_; rintro e w' ⟨rfl, rfl⟩))
      go_ret
      exact ⟨ret_bool (by simp [gauB, hR]), by go_grown⟩
  · go_enter Try.func24, Try.ntmps24
    go_wp2_with (first
      | (go_at_call 52; refine (length_any _ _ _ _ hn1).mono ?_; rintro e w' ⟨rfl, rfl⟩)
      | (go_at_call 51; refine (within_any _ _ _ _).mono ?_; rintro e w' ⟨rfl, rfl⟩))
    go_ret
    exact ⟨ret_bool (by simp [gauB, inB] at hA ⊢; intros; omega), by go_grown⟩

set_option maxHeartbeats 2000000 in
theorem specIsGauge_any (A1 A2 : Option Addr) (c1 c2 : Nat) (ts ls : List Int) (w : World) (h : ProfAt w A1 c1 A2 c2 ts ls) :
    Calls Try.prog 49 #[profV A1 ts.length c1 A2 ls.length c2] w fun e w' => e = .returned (.bool (gauB ts ls)) ∧ Below w.heap.size w w' := by
  have hn1 := Nat.le_trans h.1.1 h.1.2.1
  have hn2 := Nat.le_trans h.2.1 h.2.2.1
  have H1 := Lib.hid h.1; have H2 := Lib.hid h.2; clear h
  by_cases d1 : (0 : Int) < (ts.length : Int)
  · by_cases d2 : (ts.length : Int) ≤ 40
    · by_cases hR : risB ts 1000001 = true
      · by_cases hB : ls.length = ts.length
        · have hB1 : ((ls.length : Int) == (ts.length : Int)) = true := beq_iff_eq.2 (by omega)
          have HB := Lib.hid hB
          clear hB
          go_enter Try.func49, Try.ntmps49
          go_wp2_with (first
            | (go_at_call 64; refine (l01Rises_any _ _ _ _ _ (H1.out.below (B := w.heap.size) (by go_grown) (Nat.le_refl _))).mono ?_; rintro e w1 ⟨rfl, hb1⟩; obtain ⟨B1, hz1, q1, s1, t1, x1, y1, z1⟩ := bkeep (w := w) [w.heap.size] (by first | (simp; done) | (simp; omega)) (by first | (go_grown; done) | exact bdrewN (by go_grown) _) hb1; (try simp at hz1); clear hb1)
            | (go_at_call 65; refine (l01Within_any _ _ _ _ _ _ _ (H2.out.below B1 (Nat.le_refl _))).mono ?_; rintro e w' ⟨rfl, rfl⟩))
          go_ret
          exact ⟨ret_bool (by have hB := HB.out
                              have e13 : (ls.length : Int) ≤ 40 := by omega
                              have e14 : 1 ≤ ts.length := by omega
                              have e15 : ts.length ≤ 40 := by omega
                              simp [gauB, hR, hB, e14, e15]; intros; omega), B1⟩
        · have hB1 : ((ls.length : Int) == (ts.length : Int)) = false := beq_eq_false_iff_ne.2 (by omega)
          go_enter Try.func49, Try.ntmps49
          go_wp2_with (first
            | (go_at_call 64; refine (l01Rises_any _ _ _ _ _ (H1.out.below (B := w.heap.size) (by go_grown) (Nat.le_refl _))).mono ?_; rintro e w1 ⟨rfl, hb1⟩; obtain ⟨B1, hz1, q1, s1, t1, x1, y1, z1⟩ := bkeep (w := w) [w.heap.size] (by first | (simp; done) | (simp; omega)) (by first | (go_grown; done) | exact bdrewN (by go_grown) _) hb1; (try simp at hz1); clear hb1))
          go_ret
          exact ⟨ret_bool (by simp [gauB, hB]), B1⟩
      · go_enter Try.func49, Try.ntmps49
        go_wp2_with (first
          | (go_at_call 64; refine (l01Rises_any _ _ _ _ _ (H1.out.below (B := w.heap.size) (by go_grown) (Nat.le_refl _))).mono ?_; rintro e w1 ⟨rfl, hb1⟩; obtain ⟨B1, hz1, q1, s1, t1, x1, y1, z1⟩ := bkeep (w := w) [w.heap.size] (by first | (simp; done) | (simp; omega)) (by first | (go_grown; done) | exact bdrewN (by go_grown) _) hb1; (try simp at hz1); clear hb1))
        go_ret
        exact ⟨ret_bool (by simp [gauB, hR]), B1⟩
    · go_enter Try.func49, Try.ntmps49
      go_wp2
      go_ret
      exact ⟨ret_bool (by simp [gauB]; intros; omega), by go_grown⟩
  · go_enter Try.func49, Try.ntmps49
    go_wp2
    go_ret
    exact ⟨ret_bool (by simp [gauB]; intros; omega), by go_grown⟩

structure GauIs (ts ls : List Int) : Prop where
  l1 : 1 ≤ ts.length
  l2 : ts.length ≤ 40
  l3 : ls.length = ts.length
  t : ∀ (k : Nat) x, ts[k]? = some x → 0 ≤ x ∧ x ≤ 1000000
  up : ∀ (k : Nat) x y, ts[k]? = some x → ts[k + 1]? = some y → x < y
  v : ∀ (k : Nat) x, ls[k]? = some x → -2000 ≤ x ∧ x ≤ 2000
theorem gau_is {ts ls : List Int} (h : gauB ts ls = true) : GauIs ts ls := by
  simp only [gauB, Bool.and_eq_true, decide_eq_true_eq] at h
  obtain ⟨⟨⟨⟨h1, h2⟩, h3⟩, h4⟩, h5⟩ := h
  refine ⟨h1, h2, h4, fun k x hx => ?_, fun k x y hx hy => ris_lt h3 hx hy, fun k x hx => ?_⟩
  · have := ris_in h3 hx; omega
  · exact inB_bd (List.all_eq_true.1 h5 x (List.mem_of_getElem? hx))

end Go.Proofs.Ytjabldjffpjkeaa
