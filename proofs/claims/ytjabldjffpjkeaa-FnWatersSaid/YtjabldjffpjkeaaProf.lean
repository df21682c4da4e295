/- What a valid profile is, by the program and by the reference. -/
import Derived.Test.YtjabldjffpjkeaaInts
namespace Go.Proofs.Ytjabldjffpjkeaa
set_option linter.unusedSimpArgs false
set_option linter.unusedVariables false
open Go.RowKit

theorem inB_bd {x lo hi : Int} (h : inB x lo hi = true) : lo ≤ x ∧ x ≤ hi := by simpa [inB] using h

/-- element i lies in 0 .. n - 1 and is greater than the one before it -/
def okAt (xs : List Int) (n : Int) (i : Nat) : Bool :=
  match xs[i]? with
  | some x => decide (0 ≤ x) && decide (x < n) && (match i with | 0 => true | j + 1 => match xs[j]? with | some y => decide (y < x) | none => true)
  | none => true
def risB (xs : List Int) (n : Int) : Bool := (List.range xs.length).all (okAt xs n)

theorem okAt_zero {xs : List Int} {n x : Int} (h : xs[0]? = some x) : okAt xs n 0 = (decide (0 ≤ x) && decide (x < n)) := by
  unfold okAt; rw [h]; simp
theorem okAt_succ {xs : List Int} {n x y : Int} {j : Nat} (h : xs[j + 1]? = some x) (h' : xs[j]? = some y) : okAt xs n (j + 1) = (decide (0 ≤ x) && decide (x < n) && decide (y < x)) := by
  simp only [okAt, h, h']
theorem ris_stop {xs : List Int} {n : Int} {k : Nat} (hk : k < xs.length) (h : okAt xs n k = false) : risB xs n = false := by
  unfold risB
  rw [List.all_eq_false]
  exact ⟨k, List.mem_range.2 hk, by simp [h]⟩
theorem ris_done {xs : List Int} {n : Int} (h : ∀ i, i < xs.length → okAt xs n i = true) : risB xs n = true := by
  unfold risB
  rw [List.all_eq_true]
  exact fun i hi => h i (List.mem_range.1 hi)
theorem ris_at {xs : List Int} {n : Int} (h : risB xs n = true) {i : Nat} (hi : i < xs.length) : okAt xs n i = true := by
  unfold risB at h
  exact List.all_eq_true.1 h i (List.mem_range.2 hi)
theorem ris_in {xs : List Int} {n : Int} (h : risB xs n = true) {i : Nat} {x : Int} (hx : xs[i]? = some x) : 0 ≤ x ∧ x < n := by
  have := ris_at h (List.getElem?_eq_some_iff.1 hx).1
  unfold okAt at this
  rw [hx] at this
  simp at this
  omega
theorem ris_lt {xs : List Int} {n : Int} (h : risB xs n = true) {i : Nat} {x y : Int} (hx : xs[i]? = some x) (hy : xs[i + 1]? = some y) : x < y := by
  have := ris_at h (List.getElem?_eq_some_iff.1 hy).1
  rw [okAt_succ hy hx] at this
  simp at this
  exact this.2

set_option maxHeartbeats 1000000 in
theorem isRising_any (A : Option Addr) (c : Nat) (xs : List Int) (n : Int) (w : World) (hx : IntsAt w A c xs) :
    Calls Try.prog 53 #[.slice A xs.length c, .int .i64 n] w fun e w' => e = .returned (.bool (risB xs n)) ∧ w = w' := by
  have hn := Nat.le_trans hx.1 hx.2.1
  have HX := Lib.hid hx; clear hx
  go_enter Try.func53, Try.ntmps53
  go_wp2
  go_loop [9] (fun i => ∃ k : Nat, k ≤ xs.length ∧ i = .int .i64 k ∧ ∀ i, i < k → okAt xs n i = true) (fun i => xs.length - (intOf i).toNat)
  case atStart => exact ⟨0, by omega, rfl, fun i h => absurd h (by omega)⟩
  case round =>
    obtain ⟨k, hk, rfl, ha⟩ := hrel
    have HA := Lib.hid ha; clear ha
    by_cases hlt : k < xs.length
    · obtain ⟨b, off, x, hA, hb, hxk, hc⟩ := HX.out.at_ hlt
      have HK := Lib.hid hxk; clear hxk
      rcases k with _ | j
      · subst hA
        simp only [Nat.add_zero] at hc
        have hok := okAt_zero (n := n) HK.out
        have HO := Lib.hid hok; clear hok
        by_cases h0 : 0 ≤ x
        · by_cases h1 : x < n
          · go_wp2
            go_round
            case rel => exact ⟨1, by omega, by go_num, fun i hi => by have : i = 0 := by omega
                                                                      subst this; rw [HO.out]; simp [h0, h1]⟩
            case measure => simp [intOf]; omega
          · go_wp2
            go_ret
            exact ⟨ret_bool (ris_stop hlt (by rw [HO.out]; simp [h0]; omega)).symm, rfl⟩
        · go_wp2
          go_ret
          exact ⟨ret_bool (ris_stop hlt (by rw [HO.out]; simp; omega)).symm, rfl⟩
      · obtain ⟨b', off', y, hA', hb', hyk, hc'⟩ := HX.out.at_ (k := j) (by omega)
        rw [hA] at hA'
        simp only [Option.some.injEq, Addr.mk.injEq, and_true] at hA'
        obtain ⟨rfl, rfl⟩ := hA'
        subst hA
        have hok := okAt_succ (n := n) HK.out hyk
        have HO := Lib.hid hok; clear hok hyk
        have hj : (0 : Int) < (j : Int) + 1 := by omega
        by_cases h0 : 0 ≤ x
        · by_cases h1 : x < n
          · by_cases h2 : y < x
            · go_wp2
              go_round
              case rel => exact ⟨j + 1 + 1, by omega, by go_num, fun i hi => by
                                by_cases e : i = j + 1
                                · subst e; rw [HO.out]; simp [h0, h1, h2]
                                · exact HA.out i (by omega)⟩
              case measure => simp [intOf]; omega
            · go_wp2
              go_ret
              exact ⟨ret_bool (ris_stop hlt (by rw [HO.out]; simp [h0, h1]; omega)).symm, rfl⟩
          · go_wp2
            go_ret
            exact ⟨ret_bool (ris_stop hlt (by rw [HO.out]; simp [h0]; omega)).symm, rfl⟩
        · go_wp2
          go_ret
          exact ⟨ret_bool (ris_stop hlt (by rw [HO.out]; simp; omega)).symm, rfl⟩
    · have hkn : k = xs.length := by omega
      have HN := Lib.hid hkn; clear hkn
      go_wp2
      go_ret
      exact ⟨ret_bool (ris_done fun i hi => HA.out i (by have := HN.out; omega)).symm, rfl⟩

set_option maxHeartbeats 1000000 in
theorem l01Rises_any (A : Option Addr) (c : Nat) (xs : List Int) (n : Int) (w : World) (hx : IntsAt w A c xs) :
    Calls Try.prog 64 #[.slice A xs.length c, .int .i64 n] w fun e w' => e = .returned (.bool (risB xs n)) ∧ Below w.heap.size w w' := by
  have hn := Nat.le_trans hx.1 hx.2.1
  have HX := Lib.hid hx; clear hx
  go_enter Try.func64, Try.ntmps64
  go_wp2
  go_loopw [5] (fun i wr => Below w.heap.size w wr ∧ ∃ k : Nat, k ≤ xs.length ∧ i = .int .i64 k ∧ ∀ i, i < k → okAt xs n i = true) (fun i _ => xs.length - (intOf i).toNat)
  case atStart => exact ⟨Below.refl _ _, 0, by omega, rfl, fun i h => absurd h (by omega)⟩
  case round =>
    obtain ⟨Br, k, hk, rfl, ha⟩ := hrel
    have tr := bold Br
    have HA := Lib.hid ha; clear ha
    by_cases hlt : k < xs.length
    · obtain ⟨b, off, x, hA, hb, hxk, hc⟩ := HX.out.at_ hlt
      have HK := Lib.hid hxk; clear hxk
      have hk0 : (0 : Int) ≤ (k : Int) := Int.natCast_nonneg _
      have hk1 : (k : Int) < (xs.length : Int) := by omega
      rcases k with _ | j
      · subst hA
        simp only [Nat.add_zero] at hc
        have hok := okAt_zero (n := n) HK.out
        have HO := Lib.hid hok; clear hok
        rw [show ((0 : Nat) : Int) = 0 from rfl]
        by_cases h0 : 0 ≤ x
        · have d0 : decide (x < 0) = false := decide_eq_false (by omega)
          by_cases h1 : x < n
          · have d1 : decide (n ≤ x) = false := decide_eq_false (by omega)
            go_wp2_with fail
            go_quiet (fail)
            go_wp2
            go_roundw
            case rel => exact ⟨bdrewN Br _, 1, by omega, by go_num, fun i hi => by have : i = 0 := by omega
                                                                                   subst this; rw [HO.out]; simp [h0, h1]⟩
            case measure => simp [intOf]; omega
          · have d1 : decide (n ≤ x) = true := decide_eq_true (by omega)
            go_wp2_with fail
            go_quiet (fail)
            go_wp2
            go_ret
            exact ⟨ret_bool (ris_stop hlt (by rw [HO.out]; simp [h0]; omega)).symm, bdrewN Br _⟩
        · have d0 : decide (x < 0) = true := decide_eq_true (by omega)
          go_wp2_with fail
          go_quiet (fail)
          go_wp2
          go_ret
          exact ⟨ret_bool (ris_stop hlt (by rw [HO.out]; simp; omega)).symm, bdrewN Br _⟩
      · obtain ⟨b', off', y, hA', hb', hyk, hc'⟩ := HX.out.at_ (k := j) (by omega)
        rw [hA] at hA'
        simp only [Option.some.injEq, Addr.mk.injEq, and_true] at hA'
        obtain ⟨rfl, rfl⟩ := hA'
        subst hA
        have hok := okAt_succ (n := n) HK.out hyk
        have HO := Lib.hid hok; clear hok hyk
        have hj : (0 : Int) < (j : Int) + 1 := by omega
        have d2 : decide ((0 : Int) < (j : Int) + 1) = true := decide_eq_true (by omega)
        by_cases h0 : 0 ≤ x
        · have d0 : decide (x < 0) = false := decide_eq_false (by omega)
          by_cases h1 : x < n
          · have d1 : decide (n ≤ x) = false := decide_eq_false (by omega)
            by_cases h2 : y < x
            · have d3 : decide (x ≤ y) = false := decide_eq_false (by omega)
              go_wp2_with fail
              go_quiet (fail)
              go_wp2
              go_roundw
              case rel => exact ⟨bdrewN Br _, j + 1 + 1, by omega, by go_num, fun i hi => by
                                by_cases e : i = j + 1
                                · subst e; rw [HO.out]; simp [h0, h1, h2]
                                · exact HA.out i (by omega)⟩
              case measure => simp [intOf]; omega
            · have d3 : decide (x ≤ y) = true := decide_eq_true (by omega)
              go_wp2_with fail
              go_quiet (fail)
              go_wp2
              go_ret
              exact ⟨ret_bool (ris_stop hlt (by rw [HO.out]; simp [h0, h1]; omega)).symm, bdrewN Br _⟩
          · have d1 : decide (n ≤ x) = true := decide_eq_true (by omega)
            go_wp2_with fail
            go_quiet (fail)
            go_wp2
            go_ret
            exact ⟨ret_bool (ris_stop hlt (by rw [HO.out]; simp [h0]; omega)).symm, bdrewN Br _⟩
        · have d0 : decide (x < 0) = true := decide_eq_true (by omega)
          go_wp2_with fail
          go_quiet (fail)
          go_wp2
          go_ret
          exact ⟨ret_bool (ris_stop hlt (by rw [HO.out]; simp; omega)).symm, bdrewN Br _⟩
    · have hkn : k = xs.length := by omega
      have HN := Lib.hid hkn; clear hkn
      go_wp2
      go_ret
      exact ⟨ret_bool (ris_done fun i hi => HA.out i (by have := HN.out; omega)).symm, Br⟩

/-- a valid profile -/
def profB (ds ss : List Int) : Bool :=
  decide (2 ≤ ds.length) && decide (ds.length ≤ 12) && decide (ss.length = ds.length) && risB ds 1000001 && decide (ds[0]? = some 0) && ss.all (inB · 1300000 1700000)

set_option maxHeartbeats 400000 in
theorem length_any (A : Option Addr) (c n : Nat) (w : World) (hn : n ≤ 9223372036854775807) :
    Calls Try.prog 52 #[.slice A n c] w fun e w' => e = .returned (.int .i64 n) ∧ w = w' := by
  go_enter Try.func52, Try.ntmps52
  go_wp2
  go_ret
  exact ⟨rfl, rfl⟩

set_option maxHeartbeats 400000 in
theorem l01Within_any (A : Option Addr) (c : Nat) (xs : List Int) (m lo hi : Int) (w : World) (hx : IntsAt w A c xs) :
    Calls Try.prog 65 #[.slice A xs.length c, .int .i64 m, .int .i64 lo, .int .i64 hi] w fun e w' => e = .returned (.bool (xs.all (inB · lo hi) && decide ((xs.length : Int) ≤ m))) ∧ w = w' := by
  have hn := Nat.le_trans hx.1 hx.2.1
  have HX := Lib.hid hx; clear hx
  go_enter Try.func65, Try.ntmps65
  go_wp2
  go_loop [9] (fun i => ∃ k : Nat, k ≤ xs.length ∧ i = .int .i64 k ∧ (xs.take k).all (inB · lo hi) = true) (fun i => xs.length - (intOf i).toNat)
  case atStart => exact ⟨0, by omega, rfl, by simp⟩
  case round =>
    obtain ⟨k, hk, rfl, ha⟩ := hrel
    have HA := Lib.hid ha; clear ha
    by_cases hlt : k < xs.length
    · obtain ⟨b, off, x, rfl, hb, hxk, hc⟩ := HX.out.at_ hlt
      have HK := Lib.hid hxk; clear hxk
      by_cases hin : inB x lo hi = true
      · go_wp2_with (go_at_call 56; refine (l01In_any _ _ _ _).mono ?_; rintro e w' ⟨rfl, rfl⟩)
        go_round
        case rel => exact ⟨k + 1, by omega, by go_num, all_step HK.out HA.out hin⟩
        case measure => simp [intOf]; omega
      · go_wp2_with (go_at_call 56; refine (l01In_any _ _ _ _).mono ?_; rintro e w' ⟨rfl, rfl⟩)
        go_ret
        exact ⟨ret_bool (by rw [all_stop HK.out (by simpa using hin)]; rfl), rfl⟩
    · go_wp2
      go_ret
      exact ⟨ret_bool (by rw [all_done HA.out hlt, Bool.true_and]), rfl⟩

abbrev profV (A1 : Option Addr) (n1 c1 : Nat) (A2 : Option Addr) (n2 c2 : Nat) : Value := .agg #[.slice A1 n1 c1, .slice A2 n2 c2]

theorem at_zero {w : World} {A : Option Addr} {c : Nat} {xs : List Int} (h : IntsAt w A c xs) (hk : 0 < xs.length) :
    ∃ b off x, A = some ⟨b, off, none⟩ ∧ b < w.heap.size ∧ xs[0]? = some x ∧ w.cell? ⟨b, off, none⟩ = some (.int .i64 x) := by
  obtain ⟨b, off, x, h1, h2, h3, h4⟩ := h.at_ hk
  exact ⟨b, off, x, h1, h2, h3, by simpa using h4⟩

end Go.Proofs.Ytjabldjffpjkeaa
