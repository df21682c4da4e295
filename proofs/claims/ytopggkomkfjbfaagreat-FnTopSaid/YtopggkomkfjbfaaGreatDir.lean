/- What a valid direction is, by the program and by the reference. -/
import Derived.Test.YtopggkomkfjbfaaGreatNum
import Derived.Test.YtopggkomkfjbfaaGreatProf
import Derived.IntWalk
namespace Go.Proofs.YtopggkomkfjbfaaGreat
set_option linter.unusedSimpArgs false
set_option linter.unusedVariables false
open Go.RowKit

abbrev dirV (c s h : Int) : Value := .agg #[.int .i64 c, .int .i64 s, .int .i64 h]

@[irreducible] def dirB (c s h : Int) : Bool :=
  inB h 1 1000 && inB c 1 1000 && inB s (-1000) 1000 && decide (s ≠ 0) && decide (c * c + s * s = h * h) && decide (Int.gcd (Int.gcd c s : Nat) h = 1)

theorem dir_false1 {c s h : Int} (hh : inB h 1 1000 = true) (hc : ¬ (1 ≤ c ∧ c ≤ h)) : dirB c s h = false := by
  obtain ⟨h1, h2⟩ := inB_bd hh
  rcases Decidable.em (c * c + s * s = h * h ∧ 1 ≤ c) with ⟨g1, g2⟩ | g
  · have := sq_mono (a := h + 1) (b := c) (by omega) (by omega)
    have := (sq_bd (a := s) (m := s.natAbs) (by omega) (by omega)).1
    have e : (h + 1) * (h + 1) = h * h + (2 * h + 1) := by rw [Int.add_mul, Int.mul_add]; omega
    omega
  · unfold dirB inB
    by_cases g2 : 1 ≤ c
    · have : ¬ c * c + s * s = h * h := fun e => g ⟨e, g2⟩
      simp [this]
    · simp [g2]
theorem dir_false2 {c s h : Int} (hh : inB h 1 1000 = true) (hc : ¬ (-h ≤ s ∧ s ≤ h)) : dirB c s h = false := by
  obtain ⟨h1, h2⟩ := inB_bd hh
  by_cases g1 : c * c + s * s = h * h
  · have h3 := sq_mono (a := h + 1) (b := s.natAbs) (by omega) (by omega)
    have h4 := (sq_bd (a := c) (m := c.natAbs) (by omega) (by omega)).1
    have e : (h + 1) * (h + 1) = h * h + (2 * h + 1) := by rw [Int.add_mul, Int.mul_add]; omega
    have e2 : ((s.natAbs : Int)) * (s.natAbs : Int) = s * s := Int.natAbs_mul_self
    omega
  · unfold dirB; simp [g1]

theorem gcd_le {c s : Int} (hc : 1 ≤ c) : 0 ≤ ((Int.gcd c s : Nat) : Int) ∧ ((Int.gcd c s : Nat) : Int) ≤ c := by
  refine ⟨by omega, ?_⟩
  have h1 : Int.gcd c s ∣ c.natAbs := Int.gcd_dvd_natAbs_left c s
  have := Nat.le_of_dvd (by omega) h1
  omega

theorem within_q {x lo hi : Int} {b : Bool} (h : inB x lo hi = b) {w : World} {n : Nat} :
    Calls Tryz.prog 25 #[.int .i64 x, .int .i64 lo, .int .i64 hi] (w.drewN n) fun e w'' => e = .returned (.bool b) ∧ ∃ m, w'' = w.drewN m := by
  subst h
  exact q_same (within_any _ _ _ _)
theorem l01In_q {x lo hi : Int} {b : Bool} (h : inB x lo hi = b) {w : World} {n : Nat} :
    Calls Tryz.prog 53 #[.int .i64 x, .int .i64 lo, .int .i64 hi] (w.drewN n) fun e w'' => e = .returned (.bool b) ∧ ∃ m, w'' = w.drewN m := by
  subst h
  exact q_same (l01In_any _ _ _ _)
theorem gen3 {P : World → Prop} {w w0 : World} {a b c : Value} (B : Below w.heap.size w w0) (h0 : w0.cell? ⟨w.heap.size, 0, none⟩ = some a) (h1 : w0.cell? ⟨w.heap.size, 1, none⟩ = some b) (h2 : w0.cell? ⟨w.heap.size, 2, none⟩ = some c)
    (h : ∀ w0, Below w.heap.size w w0 → w0.cell? ⟨w.heap.size, 0, none⟩ = some a → w0.cell? ⟨w.heap.size, 1, none⟩ = some b → w0.cell? ⟨w.heap.size, 2, none⟩ = some c → P w0) : P w0 := h w0 B h0 h1 h2

set_option maxRecDepth 100000 in
set_option maxHeartbeats 2000000 in
theorem implIsDirection_any (c s h : Int) (w : World) :
    Calls Tryz.prog 29 #[dirV c s h] w fun e w' => e = .returned (.bool (dirB c s h)) ∧ Below w.heap.size w w' := by
  by_cases h1 : inB h 1 1000 = true
  · by_cases h2 : inB c 1 1000 = true
    · by_cases h3 : inB s (-1000) 1000 = true
      · obtain ⟨a1, a2⟩ := inB_bd h1
        obtain ⟨a3, a4⟩ := inB_bd h2
        obtain ⟨a5, a6⟩ := inB_bd h3
        by_cases h4 : (s != 0) = true
        · obtain ⟨g1, g2⟩ := sq_bd (a := c) (m := 1000) (by omega) (by omega)
          obtain ⟨g3, g4⟩ := sq_bd (a := s) (m := 1000) (by omega) (by omega)
          obtain ⟨g5, g6⟩ := sq_bd (a := h) (m := 1000) (by omega) (by omega)
          obtain ⟨g7, g8⟩ := gcd_le (s := s) a3
          by_cases h5 : (c * c + s * s == h * h) = true
          · have he0 : dirB c s h = (((Int.gcd (Int.gcd c s : Nat) h : Nat) : Int) == 1) := by
              unfold dirB
              rw [h1, h2, h3, decide_eq_true (show s ≠ 0 by simpa using h4), decide_eq_true (show c * c + s * s = h * h by simpa using h5)]
              simp only [Bool.true_and]
              rw [Bool.eq_iff_iff]; simp; omega
            have HE := Lib.hid he0; clear he0
            go_enter Tryz.func29, Tryz.ntmps29
            go_wp2_with fail
            refine gen3 (w := w) (a := .int .i64 c) (b := .int .i64 s) (c := .int .i64 h) (by go_grown) (by simp [go_sem]) (by simp [go_sem]) (by simp [go_sem]) (fun w0 B0 r0 r1 r2 => ?_)
            have W1 : IntKind.i64.wrap (c * c) = c * c := IntWalk.i64_in _ (by omega)
            have W2 : IntKind.i64.wrap (s * s) = s * s := IntWalk.i64_in _ (by omega)
            have W3 : IntKind.i64.wrap (h * h) = h * h := IntWalk.i64_in _ (by omega)
            have W4 : IntKind.i64.wrap (c * c + s * s) = c * c + s * s := IntWalk.i64_in _ (by omega)
            go_quiet ((first | (go_at_call 25; first | with_reducible exact within_q h1 | with_reducible exact within_q h1' | with_reducible exact within_q h2 | with_reducible exact within_q h2' | with_reducible exact within_q h3 | with_reducible exact within_q h3') | (go_at_call 54; exact q_drew (gcd_q _ _ _ (by omega) (by omega) (by omega) (by omega)))))
            clear W1 W2 W3 W4
            go_wp2
            go_ret
            exact ⟨ret_bool HE.out.symm, by first | exact bdrewN B0 _ | exact B0⟩
          · have he0 : dirB c s h = false := by unfold dirB; rw [decide_eq_false (show ¬ c * c + s * s = h * h by simpa using h5)]; simp
            have HE := Lib.hid he0; clear he0
            have h5' : (c * c + s * s == h * h) = false := by simpa using h5
            clear h5
            go_enter Tryz.func29, Tryz.ntmps29
            go_wp2_with fail
            refine gen3 (w := w) (a := .int .i64 c) (b := .int .i64 s) (c := .int .i64 h) (by go_grown) (by simp [go_sem]) (by simp [go_sem]) (by simp [go_sem]) (fun w0 B0 r0 r1 r2 => ?_)
            have W1 : IntKind.i64.wrap (c * c) = c * c := IntWalk.i64_in _ (by omega)
            have W2 : IntKind.i64.wrap (s * s) = s * s := IntWalk.i64_in _ (by omega)
            have W3 : IntKind.i64.wrap (h * h) = h * h := IntWalk.i64_in _ (by omega)
            have W4 : IntKind.i64.wrap (c * c + s * s) = c * c + s * s := IntWalk.i64_in _ (by omega)
            go_quiet ((go_at_call 25; first | with_reducible exact within_q h1 | with_reducible exact within_q h1' | with_reducible exact within_q h2 | with_reducible exact within_q h2' | with_reducible exact within_q h3 | with_reducible exact within_q h3'))
            clear W1 W2 W3 W4
            go_wp2
            go_ret
            exact ⟨ret_bool HE.out.symm, by first | exact bdrewN B0 _ | exact B0⟩
        · have h4' : (s != 0) = false := by simpa using h4
          have he0 : dirB c s h = false := by unfold dirB; rw [decide_eq_false (show ¬ s ≠ 0 by simpa using h4)]; simp
          have HE := Lib.hid he0; clear he0
          clear h4
          go_enter Tryz.func29, Tryz.ntmps29
          go_wp2_with fail
          refine gen3 (w := w) (a := .int .i64 c) (b := .int .i64 s) (c := .int .i64 h) (by go_grown) (by simp [go_sem]) (by simp [go_sem]) (by simp [go_sem]) (fun w0 B0 r0 r1 r2 => ?_)
          go_quiet ((go_at_call 25; first | with_reducible exact within_q h1 | with_reducible exact within_q h1' | with_reducible exact within_q h2 | with_reducible exact within_q h2' | with_reducible exact within_q h3 | with_reducible exact within_q h3'))
          go_wp2
          go_ret
          exact ⟨ret_bool HE.out.symm, by first | exact bdrewN B0 _ | exact B0⟩
      · have h3' : inB s (-1000) 1000 = false := by simpa using h3
        have he0 : dirB c s h = false := by unfold dirB; rw [h3']; simp
        have HE := Lib.hid he0; clear he0
        clear h3
        go_enter Tryz.func29, Tryz.ntmps29
        go_wp2_with fail
        refine gen3 (w := w) (a := .int .i64 c) (b := .int .i64 s) (c := .int .i64 h) (by go_grown) (by simp [go_sem]) (by simp [go_sem]) (by simp [go_sem]) (fun w0 B0 r0 r1 r2 => ?_)
        go_quiet ((go_at_call 25; first | with_reducible exact within_q h1 | with_reducible exact within_q h1' | with_reducible exact within_q h2 | with_reducible exact within_q h2' | with_reducible exact within_q h3 | with_reducible exact within_q h3'))
        go_wp2
        go_ret
        exact ⟨ret_bool HE.out.symm, by first | exact bdrewN B0 _ | exact B0⟩
    · have h2' : inB c 1 1000 = false := by simpa using h2
      have he0 : dirB c s h = false := by unfold dirB; rw [h2']; simp
      have HE := Lib.hid he0; clear he0
      clear h2
      go_enter Tryz.func29, Tryz.ntmps29
      go_wp2_with fail
      refine gen3 (w := w) (a := .int .i64 c) (b := .int .i64 s) (c := .int .i64 h) (by go_grown) (by simp [go_sem]) (by simp [go_sem]) (by simp [go_sem]) (fun w0 B0 r0 r1 r2 => ?_)
      go_quiet ((go_at_call 25; first | with_reducible exact within_q h1 | with_reducible exact within_q h1' | with_reducible exact within_q h2 | with_reducible exact within_q h2' | with_reducible exact within_q h3 | with_reducible exact within_q h3'))
      go_wp2
      go_ret
      exact ⟨ret_bool HE.out.symm, by first | exact bdrewN B0 _ | exact B0⟩
  · have h1' : inB h 1 1000 = false := by simpa using h1
    have he0 : dirB c s h = false := by unfold dirB; rw [h1']; simp
    have HE := Lib.hid he0; clear he0
    clear h1
    go_enter Tryz.func29, Tryz.ntmps29
    go_wp2_with fail
    refine gen3 (w := w) (a := .int .i64 c) (b := .int .i64 s) (c := .int .i64 h) (by go_grown) (by simp [go_sem]) (by simp [go_sem]) (by simp [go_sem]) (fun w0 B0 r0 r1 r2 => ?_)
    go_quiet ((go_at_call 25; first | with_reducible exact within_q h1 | with_reducible exact within_q h1' | with_reducible exact within_q h2 | with_reducible exact within_q h2' | with_reducible exact within_q h3 | with_reducible exact within_q h3'))
    go_wp2
    go_ret
    exact ⟨ret_bool HE.out.symm, by first | exact bdrewN B0 _ | exact B0⟩

set_option maxRecDepth 100000 in
set_option maxHeartbeats 2000000 in
theorem specIsDirection_any (c s h : Int) (w : World) :
    Calls Tryz.prog 69 #[dirV c s h] w fun e w' => e = .returned (.bool (dirB c s h)) ∧ Below w.heap.size w w' := by
  by_cases h1 : inB h 1 1000 = true
  · obtain ⟨a1, a2⟩ := inB_bd h1
    by_cases h2 : inB c 1 h = true
    · obtain ⟨a3, a4⟩ := inB_bd h2
      by_cases h3 : inB s (-h) h = true
      · obtain ⟨a5, a6⟩ := inB_bd h3
        by_cases h4 : (s != 0) = true
        · obtain ⟨g1, g2⟩ := sq_bd (a := c) (m := 1000) (by omega) (by omega)
          obtain ⟨g3, g4⟩ := sq_bd (a := s) (m := 1000) (by omega) (by omega)
          obtain ⟨g5, g6⟩ := sq_bd (a := h) (m := 1000) (by omega) (by omega)
          obtain ⟨g7, g8⟩ := gcd_le (s := s) a3
          by_cases h5 : (c * c + s * s == h * h) = true
          · have he0 : dirB c s h = (((Int.gcd (Int.gcd c s : Nat) h : Nat) : Int) == 1) := by
              unfold dirB
              rw [h1, show inB c 1 1000 = true by simp [inB]; omega, show inB s (-1000) 1000 = true by simp [inB]; omega, decide_eq_true (show s ≠ 0 by simpa using h4), decide_eq_true (show c * c + s * s = h * h by simpa using h5)]
              simp only [Bool.true_and]
              rw [Bool.eq_iff_iff]; simp; omega
            have HE := Lib.hid he0; clear he0
            go_enter Tryz.func69, Tryz.ntmps69
            go_wp2_with fail
            refine gen3 (w := w) (a := .int .i64 c) (b := .int .i64 s) (c := .int .i64 h) (by go_grown) (by simp [go_sem]) (by simp [go_sem]) (by simp [go_sem]) (fun w0 B0 r0 r1 r2 => ?_)
            have W1 : IntKind.i64.wrap (c * c) = c * c := IntWalk.i64_in _ (by omega)
            have W2 : IntKind.i64.wrap (s * s) = s * s := IntWalk.i64_in _ (by omega)
            have W3 : IntKind.i64.wrap (h * h) = h * h := IntWalk.i64_in _ (by omega)
            have W4 : IntKind.i64.wrap (c * c + s * s) = c * c + s * s := IntWalk.i64_in _ (by omega)
            have W5 : IntKind.i64.wrap (-h) = -h := IntWalk.i64_in _ (by omega)
            go_quiet ((first | (go_at_call 53; first | with_reducible exact l01In_q h1 | with_reducible exact l01In_q h1' | with_reducible exact l01In_q h2 | with_reducible exact l01In_q h2' | with_reducible exact l01In_q h3 | with_reducible exact l01In_q h3') | (go_at_call 59; exact q_drew (l01Divisor_q _ _ _ (by omega) (by omega) (by omega) (by omega)))))
            clear W1 W2 W3 W4 W5
            go_wp2
            go_ret
            exact ⟨ret_bool HE.out.symm, by first | exact bdrewN B0 _ | exact B0⟩
          · have he0 : dirB c s h = false := by unfold dirB; rw [decide_eq_false (show ¬ c * c + s * s = h * h by simpa using h5)]; simp
            have HE := Lib.hid he0; clear he0
            have h5' : (c * c + s * s == h * h) = false := by simpa using h5
            clear h5
            go_enter Tryz.func69, Tryz.ntmps69
            go_wp2_with fail
            refine gen3 (w := w) (a := .int .i64 c) (b := .int .i64 s) (c := .int .i64 h) (by go_grown) (by simp [go_sem]) (by simp [go_sem]) (by simp [go_sem]) (fun w0 B0 r0 r1 r2 => ?_)
            have W1 : IntKind.i64.wrap (c * c) = c * c := IntWalk.i64_in _ (by omega)
            have W2 : IntKind.i64.wrap (s * s) = s * s := IntWalk.i64_in _ (by omega)
            have W3 : IntKind.i64.wrap (h * h) = h * h := IntWalk.i64_in _ (by omega)
            have W4 : IntKind.i64.wrap (c * c + s * s) = c * c + s * s := IntWalk.i64_in _ (by omega)
            have W5 : IntKind.i64.wrap (-h) = -h := IntWalk.i64_in _ (by omega)
            go_quiet ((go_at_call 53; first | with_reducible exact l01In_q h1 | with_reducible exact l01In_q h1' | with_reducible exact l01In_q h2 | with_reducible exact l01In_q h2' | with_reducible exact l01In_q h3 | with_reducible exact l01In_q h3'))
            clear W1 W2 W3 W4 W5
            go_wp2
            go_ret
            exact ⟨ret_bool HE.out.symm, by first | exact bdrewN B0 _ | exact B0⟩
        · have h4' : (s != 0) = false := by simpa using h4
          have he0 : dirB c s h = false := by unfold dirB; rw [decide_eq_false (show ¬ s ≠ 0 by simpa using h4)]; simp
          have HE := Lib.hid he0; clear he0
          clear h4
          go_enter Tryz.func69, Tryz.ntmps69
          go_wp2_with fail
          refine gen3 (w := w) (a := .int .i64 c) (b := .int .i64 s) (c := .int .i64 h) (by go_grown) (by simp [go_sem]) (by simp [go_sem]) (by simp [go_sem]) (fun w0 B0 r0 r1 r2 => ?_)
          have W5 : IntKind.i64.wrap (-h) = -h := IntWalk.i64_in _ (by omega)
          go_quiet ((go_at_call 53; first | with_reducible exact l01In_q h1 | with_reducible exact l01In_q h1' | with_reducible exact l01In_q h2 | with_reducible exact l01In_q h2' | with_reducible exact l01In_q h3 | with_reducible exact l01In_q h3'))
          clear W5
          go_wp2
          go_ret
          exact ⟨ret_bool HE.out.symm, by first | exact bdrewN B0 _ | exact B0⟩
      · have h3' : inB s (-h) h = false := by simpa using h3
        have HE := Lib.hid (dir_false2 (c := c) (s := s) h1 (fun g => h3 (by simp [inB]; omega)))
        clear h3
        go_enter Tryz.func69, Tryz.ntmps69
        go_wp2_with fail
        refine gen3 (w := w) (a := .int .i64 c) (b := .int .i64 s) (c := .int .i64 h) (by go_grown) (by simp [go_sem]) (by simp [go_sem]) (by simp [go_sem]) (fun w0 B0 r0 r1 r2 => ?_)
        have W5 : IntKind.i64.wrap (-h) = -h := IntWalk.i64_in _ (by omega)
        go_quiet ((go_at_call 53; first | with_reducible exact l01In_q h1 | with_reducible exact l01In_q h1' | with_reducible exact l01In_q h2 | with_reducible exact l01In_q h2' | with_reducible exact l01In_q h3 | with_reducible exact l01In_q h3'))
        clear W5
        go_wp2
        go_ret
        exact ⟨ret_bool HE.out.symm, by first | exact bdrewN B0 _ | exact B0⟩
    · have h2' : inB c 1 h = false := by simpa using h2
      have HE := Lib.hid (dir_false1 (c := c) (s := s) h1 (fun g => h2 (by simp [inB]; omega)))
      clear h2
      go_enter Tryz.func69, Tryz.ntmps69
      go_wp2_with fail
      refine gen3 (w := w) (a := .int .i64 c) (b := .int .i64 s) (c := .int .i64 h) (by go_grown) (by simp [go_sem]) (by simp [go_sem]) (by simp [go_sem]) (fun w0 B0 r0 r1 r2 => ?_)
      have W5 : IntKind.i64.wrap (-h) = -h := IntWalk.i64_in _ (by omega)
      go_quiet ((go_at_call 53; first | with_reducible exact l01In_q h1 | with_reducible exact l01In_q h1' | with_reducible exact l01In_q h2 | with_reducible exact l01In_q h2' | with_reducible exact l01In_q h3 | with_reducible exact l01In_q h3'))
      clear W5
      go_wp2
      go_ret
      exact ⟨ret_bool HE.out.symm, by first | exact bdrewN B0 _ | exact B0⟩
  · have h1' : inB h 1 1000 = false := by simpa using h1
    have he0 : dirB c s h = false := by unfold dirB; rw [h1']; simp
    have HE := Lib.hid he0; clear he0
    clear h1
    go_enter Tryz.func69, Tryz.ntmps69
    go_wp2_with fail
    refine gen3 (w := w) (a := .int .i64 c) (b := .int .i64 s) (c := .int .i64 h) (by go_grown) (by simp [go_sem]) (by simp [go_sem]) (by simp [go_sem]) (fun w0 B0 r0 r1 r2 => ?_)
    go_quiet ((go_at_call 53; first | with_reducible exact l01In_q h1 | with_reducible exact l01In_q h1' | with_reducible exact l01In_q h2 | with_reducible exact l01In_q h2' | with_reducible exact l01In_q h3 | with_reducible exact l01In_q h3'))
    go_wp2
    go_ret
    exact ⟨ret_bool HE.out.symm, by first | exact bdrewN B0 _ | exact B0⟩

end Go.Proofs.YtopggkomkfjbfaaGreat
