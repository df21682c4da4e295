/- Numbers: quotients rounded down and up, roots, common divisors. -/
import Derived.Test.YtopggkomkfjbfaaGreatW1
import Derived.BigQuiet
import Derived.Deep.QuietTactic
namespace Go.Proofs.YtopggkomkfjbfaaGreat
set_option linter.unusedSimpArgs false
set_option linter.unusedVariables false
open Go.RowKit

theorem vint' {k : IntKind} {a b : Int} (h : a = b) : Value.int k a = Value.int k b := by rw [h]
theorem q_same {f : FuncId} {args : Array Value} {w : World} {n : Nat} {v : Value}
    (h : Calls Tryz.prog f args (w.drewN n) fun e w' => e = .returned v ∧ w.drewN n = w') : Calls Tryz.prog f args (w.drewN n) fun e w'' => e = .returned v ∧ ∃ m, w'' = w.drewN m :=
  h.mono fun _ _ ⟨he, hm⟩ => ⟨he, n, hm.symm⟩
theorem q_drew {f : FuncId} {args : Array Value} {w : World} {n : Nat} {v : Value}
    (h : Calls Tryz.prog f args (w.drewN n) fun e w' => e = .returned v ∧ ∃ m, w' = (w.drewN n).drewN m) : Calls Tryz.prog f args (w.drewN n) fun e w'' => e = .returned v ∧ ∃ m, w'' = w.drewN m :=
  h.mono fun _ _ ⟨he, m, hm⟩ => ⟨he, n + m, by rw [hm, World.drewN_drewN]⟩

theorem sq_mono {a b : Int} (h0 : 0 ≤ a) (h : a ≤ b) : a * a ≤ b * b := Int.mul_le_mul h h h0 (by omega)

/-! quotients by a number greater than 0 -/
theorem tdiv_neg {a b : Int} (ha : a < 0) (hb : 0 < b) : (a.tmod b = 0 → a.tdiv b = a / b) ∧ (a.tmod b ≠ 0 → a.tdiv b - 1 = a / b) := by
  have h1 := Int.tdiv_mul_add_tmod a b
  have h2 : -b < a.tmod b := by
    have := Int.tmod_lt_of_pos (-a) hb
    rw [Int.neg_tmod] at this
    omega
  have h3 : a.tmod b ≤ 0 := by
    have := Int.tmod_nonneg (a := -a) b (by omega)
    rw [Int.neg_tmod] at this
    omega
  refine ⟨fun e => ?_, fun e => ?_⟩
  · apply Int.le_antisymm
    · rw [Int.le_ediv_iff_mul_le hb]; omega
    · have : a / b < a.tdiv b + 1 := by
        rw [Int.ediv_lt_iff_lt_mul hb, Int.add_mul]; omega
      omega
  · apply Int.le_antisymm
    · rw [Int.le_ediv_iff_mul_le hb, Int.sub_mul]; omega
    · have : a / b < a.tdiv b := by
        rw [Int.ediv_lt_iff_lt_mul hb]; omega
      omega
theorem tdiv_bd {a b M : Int} (ha : a < 0) (hb : 0 < b) (hM : -M ≤ a) : -M ≤ a.tdiv b ∧ a.tdiv b ≤ 0 := by
  have h1 : -M ≤ a / b := by rw [Int.le_ediv_iff_mul_le hb]; have := Int.mul_le_mul_of_nonneg_right (show (1 : Int) ≤ b by omega) (show (0 : Int) ≤ M by omega); rw [Int.neg_mul, Int.mul_comm]; omega
  have h2 : a / b ≤ 0 := by have : a / b < 1 := by rw [Int.ediv_lt_iff_lt_mul hb]; omega
                            omega
  obtain ⟨g1, g2⟩ := tdiv_neg ha hb
  have h3 := Int.tdiv_mul_add_tmod a b
  by_cases e : a.tmod b = 0
  · rw [g1 e]; exact ⟨h1, h2⟩
  · have := g2 e
    have h4 : a / b < 0 := by rw [Int.ediv_lt_iff_lt_mul hb]; omega
    omega

set_option maxHeartbeats 400000 in
theorem implFloor_any (a b : Int) (w : World) (hb : 0 < b) (hb2 : b ≤ 9000000000000000000) (h1 : -9000000000000000000 ≤ a) (h2 : a ≤ 9000000000000000000) :
    Calls Tryz.prog 96 #[.int .i64 a, .int .i64 b] w fun e w' => e = .returned (.int .i64 (a / b)) ∧ w = w' := by
  have hbd : decide (b < 0) = false := decide_eq_false (by omega)
  by_cases ha : 0 ≤ a
  · have had : decide (a < 0) = false := decide_eq_false (by omega)
    go_enter Tryz.func96, Tryz.ntmps96
    go_wp2
    all_goals (go_ret; exact ⟨rfl, rfl⟩)
  · obtain ⟨g1, g2⟩ := tdiv_neg (a := a) (b := b) (by omega) hb
    obtain ⟨g3, g4⟩ := tdiv_bd (a := a) (b := b) (by omega) hb h1
    have had : decide (a < 0) = true := decide_eq_true (by omega)
    by_cases e : a.tmod b = 0
    · have E := Lib.hid (g1 e); clear g1 g2
      have e' : (a.tmod b != 0) = false := by simpa using e
      clear e
      go_enter Tryz.func96, Tryz.ntmps96
      go_wp2
      go_ret
      exact ⟨ret_int E.out, rfl⟩
    · have E := Lib.hid (g2 e); clear g1 g2
      have e' : (a.tmod b != 0) = true := by simpa using e
      clear e
      go_enter Tryz.func96, Tryz.ntmps96
      go_wp2
      go_ret
      exact ⟨ret_int E.out, rfl⟩
set_option maxHeartbeats 400000 in
theorem implCeil_any (a b : Int) (w : World) (hb : 0 < b) (hb2 : b ≤ 9000000000000000000) (h1 : -9000000000000000000 ≤ a) (h2 : a ≤ 9000000000000000000) :
    Calls Tryz.prog 97 #[.int .i64 a, .int .i64 b] w fun e w' => e = .returned (.int .i64 (-(-a / b))) ∧ w = w' := by
  have g1 : -9000000000000000000 ≤ -a / b := by
    rw [Int.le_ediv_iff_mul_le hb]
    have := Int.mul_le_mul_of_nonneg_right (show (1 : Int) ≤ b by omega) (show (0 : Int) ≤ 9000000000000000000 by omega)
    rw [Int.neg_mul, Int.mul_comm]; omega
  have g2 : -a / b ≤ 9000000000000000000 := by
    have : -a / b < 9000000000000000001 := by
      rw [Int.ediv_lt_iff_lt_mul hb]
      have := Int.mul_le_mul_of_nonneg_right (show (1 : Int) ≤ b by omega) (show (0 : Int) ≤ 9000000000000000001 by omega)
      rw [Int.mul_comm]; omega
    omega
  go_enter Tryz.func97, Tryz.ntmps97
  go_wp2_with (go_at_call 96; refine (implFloor_any _ _ _ hb hb2 (by omega) (by omega)).mono ?_; rintro e w' ⟨rfl, rfl⟩)
  go_ret
  exact ⟨rfl, rfl⟩
set_option maxHeartbeats 400000 in
theorem specFloor_any (a b : Int) (w : World) (hb : 0 < b) (hb2 : b ≤ 9000000000000000000) (h1 : -9000000000000000000 ≤ a) (h2 : a ≤ 9000000000000000000) :
    Calls Tryz.prog 102 #[.int .i64 a, .int .i64 b] w fun e w' => e = .returned (.int .i64 (a / b)) ∧ w = w' := by
  have hbd : decide (b < 0) = false := decide_eq_false (by omega)
  by_cases ha : 0 ≤ a
  · have had : decide (a < 0) = false := decide_eq_false (by omega)
    go_enter Tryz.func102, Tryz.ntmps102
    go_wp2
    all_goals (go_ret; exact ⟨rfl, rfl⟩)
  · obtain ⟨g1, g2⟩ := tdiv_neg (a := a) (b := b) (by omega) hb
    obtain ⟨g3, g4⟩ := tdiv_bd (a := a) (b := b) (by omega) hb h1
    have had : decide (a < 0) = true := decide_eq_true (by omega)
    by_cases e : a.tmod b = 0
    · have E := Lib.hid (g1 e); clear g1 g2
      have e' : (a.tmod b != 0) = false := by simpa using e
      clear e
      go_enter Tryz.func102, Tryz.ntmps102
      go_wp2
      go_ret
      exact ⟨ret_int E.out, rfl⟩
    · have E := Lib.hid (g2 e); clear g1 g2
      have e' : (a.tmod b != 0) = true := by simpa using e
      clear e
      go_enter Tryz.func102, Tryz.ntmps102
      go_wp2
      go_ret
      exact ⟨ret_int E.out, rfl⟩
set_option maxHeartbeats 400000 in
theorem specCeil_any (a b : Int) (w : World) (hb : 0 < b) (hb2 : b ≤ 9000000000000000000) (h1 : -9000000000000000000 ≤ a) (h2 : a ≤ 9000000000000000000) :
    Calls Tryz.prog 103 #[.int .i64 a, .int .i64 b] w fun e w' => e = .returned (.int .i64 (-(-a / b))) ∧ w = w' := by
  have g1 : -9000000000000000000 ≤ -a / b := by
    rw [Int.le_ediv_iff_mul_le hb]
    have := Int.mul_le_mul_of_nonneg_right (show (1 : Int) ≤ b by omega) (show (0 : Int) ≤ 9000000000000000000 by omega)
    rw [Int.neg_mul, Int.mul_comm]; omega
  have g2 : -a / b ≤ 9000000000000000000 := by
    have : -a / b < 9000000000000000001 := by
      rw [Int.ediv_lt_iff_lt_mul hb]
      have := Int.mul_le_mul_of_nonneg_right (show (1 : Int) ≤ b by omega) (show (0 : Int) ≤ 9000000000000000001 by omega)
      rw [Int.mul_comm]; omega
    omega
  go_enter Tryz.func103, Tryz.ntmps103
  go_wp2_with (go_at_call 102; refine (specFloor_any _ _ _ hb hb2 (by omega) (by omega)).mono ?_; rintro e w' ⟨rfl, rfl⟩)
  go_ret
  exact ⟨rfl, rfl⟩

/-! absolute values -/
def absI (a : Int) : Int := if a < -a then -a else a
theorem absI_eq (a : Int) : absI a = (a.natAbs : Int) := by unfold absI; split <;> omega
set_option maxHeartbeats 400000 in
theorem implAbs_any (a : Int) (w : World) (h1 : -9000000000000000000 ≤ a) (h2 : a ≤ 9000000000000000000) :
    Calls Tryz.prog 74 #[.int .i64 a] w fun e w' => e = .returned (.int .i64 (a.natAbs : Int)) ∧ w = w' := by
  have h := Lib.hid (absI_eq a)
  by_cases g : a < -a
  all_goals
    go_enter Tryz.func74, Tryz.ntmps74
    go_wp2
    go_ret
    exact ⟨ret_int (by rw [← h.out, absI]; first | rw [if_pos (by omega)] | rw [if_neg (by omega)]), rfl⟩
set_option maxHeartbeats 400000 in
theorem specAbs_any (a : Int) (w : World) (h1 : -9000000000000000000 ≤ a) (h2 : a ≤ 9000000000000000000) :
    Calls Tryz.prog 75 #[.int .i64 a] w fun e w' => e = .returned (.int .i64 (a.natAbs : Int)) ∧ w = w' := by
  have h := Lib.hid (absI_eq a)
  by_cases g : a < -a
  all_goals
    go_enter Tryz.func75, Tryz.ntmps75
    go_wp2
    go_ret
    exact ⟨ret_int (by rw [← h.out, absI]; first | rw [if_pos (by omega)] | rw [if_neg (by omega)]), rfl⟩

/-! roots -/
def rtN : Nat → Nat
  | 0 => 0
  | n + 1 => if (rtN n + 1) * (rtN n + 1) ≤ n + 1 then rtN n + 1 else rtN n
theorem rtN_spec (n : Nat) : rtN n * rtN n ≤ n ∧ n < (rtN n + 1) * (rtN n + 1) := by
  induction n with
  | zero => simp [rtN]
  | succ n ih =>
    unfold rtN
    split
    · refine ⟨by assumption, ?_⟩
      have e : (rtN n + 1 + 1) * (rtN n + 1 + 1) = (rtN n + 1) * (rtN n + 1) + (2 * rtN n + 3) := by
        simp only [Nat.add_mul, Nat.mul_add]; omega
      omega
    · omega
def rt (n : Int) : Int := rtN n.toNat
theorem rt_spec {n : Int} (h : 0 ≤ n) : 0 ≤ rt n ∧ rt n * rt n ≤ n ∧ n < (rt n + 1) * (rt n + 1) := by
  obtain ⟨m, rfl⟩ := Int.eq_ofNat_of_zero_le h
  obtain ⟨h1, h2⟩ := rtN_spec m
  unfold rt
  rw [Int.toNat_natCast]
  refine ⟨by omega, ?_, ?_⟩
  · rw [← Int.natCast_mul]; omega
  · rw [show ((rtN m : Int) + 1) = ((rtN m + 1 : Nat) : Int) by omega, ← Int.natCast_mul]; omega
theorem rt_unique {n r : Int} (h : 0 ≤ r) (h1 : r * r ≤ n) (h2 : n < (r + 1) * (r + 1)) : rt n = r := by
  obtain ⟨g0, g1, g2⟩ := rt_spec (n := n) (by have := Int.mul_nonneg h h; omega)
  rcases Int.lt_trichotomy (rt n) r with hlt | heq | hgt
  · have := sq_mono (a := rt n + 1) (b := r) (by omega) (by omega); omega
  · exact heq
  · have := sq_mono (a := r + 1) (b := rt n) (by omega) (by omega); omega
def rtUp (n : Int) : Int := if rt n * rt n < n then rt n + 1 else rt n
theorem rt_le {n : Int} (h : 0 ≤ n) (h2 : n ≤ 4000000000000000000) : rt n ≤ 2000000000 := by
  obtain ⟨g0, g1, g2⟩ := rt_spec h
  rcases Int.lt_or_le 2000000000 (rt n) with hh | hh
  · have := sq_mono (a := 2000000001) (b := rt n) (by omega) (by omega); omega
  · exact hh
theorem rtUp_spec {n : Int} (h : 0 ≤ n) : rt n ≤ rtUp n ∧ rtUp n ≤ rt n + 1 ∧ n ≤ rtUp n * rtUp n := by
  obtain ⟨g0, g1, g2⟩ := rt_spec h
  unfold rtUp
  split
  · omega
  · omega

set_option maxHeartbeats 1000000 in
theorem rootDown_any (n : Int) (w : World) (h0 : 0 ≤ n) (h1 : n ≤ 4000000000000000000) :
    Calls Tryz.prog 104 #[.int .i64 n] w fun e w' => e = .returned (.int .i64 (rt n)) ∧ w = w' := by
  go_enter Tryz.func104, Tryz.ntmps104
  go_wp2
  go_loop [3, 4] (fun l h => ∃ a b : Int, l = .int .i64 a ∧ h = .int .i64 b ∧ 0 ≤ a ∧ a ≤ b ∧ b ≤ 2000000000 ∧ a * a ≤ n ∧ n < (b + 1) * (b + 1)) (fun l h => (intOf h - intOf l).toNat)
  case atStart => exact ⟨0, 2000000000, rfl, rfl, by omega, by omega, by omega, by omega, by omega⟩
  case round =>
    obtain ⟨a, b, rfl, rfl, ha, hab, hb, hlo, hhi⟩ := hrel
    have HL := Lib.hid hlo; have HH := Lib.hid hhi; clear hlo hhi
    by_cases hlt : a < b
    · have hm := sq_mono (a := (a + b + 1) / 2) (b := 2000000000) (by omega) (by omega)
      have hm0 := Int.mul_nonneg (show 0 ≤ (a + b + 1) / 2 by omega) (show 0 ≤ (a + b + 1) / 2 by omega)
      by_cases hmm : (a + b + 1) / 2 * ((a + b + 1) / 2) ≤ n
      · go_wp2
        go_round
        case rel => exact ⟨(a + b + 1) / 2, b, rfl, rfl, by omega, by omega, by omega, hmm, HH.out⟩
        case measure => simp [intOf]; omega
      · go_wp2
        go_round
        case rel => exact ⟨a, (a + b + 1) / 2 - 1, rfl, rfl, by omega, by omega, by omega, HL.out, by rw [show (a + b + 1) / 2 - 1 + 1 = (a + b + 1) / 2 by omega]; omega⟩
        case measure => simp [intOf]; omega
    · obtain rfl : a = b := by omega
      go_wp2
      go_ret
      exact ⟨ret_int (rt_unique ha HL.out HH.out).symm, rfl⟩
set_option maxHeartbeats 400000 in
theorem rootUp_any (n : Int) (w : World) (h0 : 0 ≤ n) (h1 : n ≤ 4000000000000000000) :
    Calls Tryz.prog 105 #[.int .i64 n] w fun e w' => e = .returned (.int .i64 (rtUp n)) ∧ w = w' := by
  obtain ⟨g0, g1, g2⟩ := rt_spec h0
  have g3 := rt_le h0 h1
  have g4 := Int.mul_nonneg g0 g0
  clear g2
  by_cases h : rt n * rt n < n
  all_goals
    go_enter Tryz.func105, Tryz.ntmps105
    go_wp2_with (go_at_call 104; refine (rootDown_any _ _ h0 h1).mono ?_; rintro e w' ⟨rfl, rfl⟩)
    go_ret
    exact ⟨ret_int (by unfold rtUp; first | rw [if_pos (by omega)] | rw [if_neg (by omega)]), rfl⟩
set_option maxHeartbeats 1000000 in
theorem l01Root_any (n : Int) (w : World) (h0 : 0 ≤ n) (h1 : n ≤ 4000000000000000000) :
    Calls Tryz.prog 106 #[.int .i64 n] w fun e w' => e = .returned (.int .i64 (rt n)) ∧ w = w' := by
  go_enter Tryz.func106, Tryz.ntmps106
  go_wp2
  go_loop [3, 4] (fun l h => ∃ a b : Int, l = .int .i64 a ∧ h = .int .i64 b ∧ 0 ≤ a ∧ a < b ∧ b ≤ 2000000001 ∧ a * a ≤ n ∧ n < b * b) (fun l h => (intOf h - intOf l).toNat)
  case atStart => exact ⟨0, 2000000001, rfl, rfl, by omega, by omega, by omega, by omega, by omega⟩
  case round =>
    obtain ⟨a, b, rfl, rfl, ha, hab, hb, hlo, hhi⟩ := hrel
    have HL := Lib.hid hlo; have HH := Lib.hid hhi; clear hlo hhi
    by_cases hlt : 1 < b - a
    · have hm := sq_mono (a := (a + b) / 2) (b := 2000000001) (by omega) (by omega)
      have hm0 := Int.mul_nonneg (show 0 ≤ (a + b) / 2 by omega) (show 0 ≤ (a + b) / 2 by omega)
      by_cases hmm : (a + b) / 2 * ((a + b) / 2) ≤ n
      · go_wp2
        go_round
        case rel => exact ⟨(a + b) / 2, b, rfl, rfl, by omega, by omega, by omega, hmm, HH.out⟩
        case measure => simp [intOf]; omega
      · go_wp2
        go_round
        case rel => exact ⟨a, (a + b) / 2, rfl, rfl, by omega, by omega, by omega, HL.out, by omega⟩
        case measure => simp [intOf]; omega
    · obtain rfl : b = a + 1 := by omega
      go_wp2
      go_ret
      exact ⟨ret_int (rt_unique ha HL.out HH.out).symm, rfl⟩
set_option maxHeartbeats 400000 in
theorem l01RootUp_any (n : Int) (w : World) (h0 : 0 ≤ n) (h1 : n ≤ 4000000000000000000) :
    Calls Tryz.prog 107 #[.int .i64 n] w fun e w' => e = .returned (.int .i64 (rtUp n)) ∧ w = w' := by
  obtain ⟨g0, g1, g2⟩ := rt_spec h0
  have g3 := rt_le h0 h1
  have g4 := Int.mul_nonneg g0 g0
  clear g2
  by_cases h : rt n * rt n < n
  all_goals
    go_enter Tryz.func107, Tryz.ntmps107
    go_wp2_with (go_at_call 106; refine (l01Root_any _ _ h0 h1).mono ?_; rintro e w' ⟨rfl, rfl⟩)
    go_ret
    exact ⟨ret_int (by unfold rtUp; first | rw [if_pos (by omega)] | rw [if_neg (by omega)]), rfl⟩

/-! common divisors -/
theorem gcd_step {x y : Int} : Int.gcd y (x.tmod y) = Int.gcd x y := by
  rw [Int.gcd_eq_natAbs_gcd_natAbs, Int.gcd_eq_natAbs_gcd_natAbs, Int.natAbs_tmod, Nat.gcd_comm, ← Nat.gcd_rec, Nat.gcd_comm]
theorem tmod_bd {x y M : Int} (h1 : -M ≤ y) (h2 : y ≤ M) (h0 : y ≠ 0) : -M ≤ x.tmod y ∧ x.tmod y ≤ M ∧ (x.tmod y).natAbs < y.natAbs := by
  have : (x.tmod y).natAbs < y.natAbs := by rw [Int.natAbs_tmod]; exact Nat.mod_lt _ (by omega)
  omega
set_option maxHeartbeats 1000000 in
theorem gcd_q (a b : Int) (w : World) (h1 : -9000000000000000000 ≤ a) (h2 : a ≤ 9000000000000000000) (h3 : -9000000000000000000 ≤ b) (h4 : b ≤ 9000000000000000000) :
    Calls Tryz.prog 54 #[.int .i64 a, .int .i64 b] w fun e w' => e = .returned (.int .i64 (Int.gcd a b : Nat)) ∧ ∃ n, w' = w.drewN n := by
  go_enter Tryz.func54, Tryz.ntmps54
  go_wp2
  go_loopw [0, 1] (fun p q wr => (∃ n, wr = w.drewN n) ∧ ∃ x y : Int, p = .int .i64 x ∧ q = .int .i64 y ∧ Int.gcd x y = Int.gcd a b ∧ -9000000000000000000 ≤ x ∧ x ≤ 9000000000000000000 ∧ -9000000000000000000 ≤ y ∧ y ≤ 9000000000000000000) (fun _ q _ => (intOf q).natAbs)
  case atStart => exact ⟨⟨0, rfl⟩, a, b, rfl, rfl, rfl, h1, h2, h3, h4⟩
  case round =>
    obtain ⟨⟨n, rfl⟩, x, y, rfl, rfl, hg, g1, g2, g3, g4⟩ := hrel
    have HG := Lib.hid hg; clear hg
    by_cases hy : y = 0
    · subst hy
      go_wp2_with (go_at_call 74; refine (implAbs_any _ _ g1 g2).mono ?_; rintro e w' ⟨rfl, rfl⟩)
      go_ret
      exact ⟨ret_int (by rw [← HG.out, Int.gcd_zero_right]), n, rfl⟩
    · have hy' : (y != 0) = true := by simpa using hy
      have hy2 : (y == 0) = false := by simpa using hy
      obtain ⟨b1, b2, b3⟩ := tmod_bd (x := x) (y := y) (M := 9000000000000000000) g3 g4 hy
      have HS := Lib.hid (gcd_step (x := x) (y := y))
      have hy3 : 0 < y.natAbs := by omega
      clear hy
      by_cases hx : 0 ≤ x
      · have e := Lib.hid (Int.tmod_eq_emod_of_nonneg hx (b := y))
        rw [e.out] at b1 b2 b3
        go_wp2_with fail
        go_quiet (fail)
        go_wp2
        go_roundw
        case rel => exact ⟨⟨_, by rw [World.drewN_drewN]⟩, y, x % y, rfl, rfl, by rw [← e.out, HS.out]; exact HG.out, g3, g4, b1, b2⟩
        case measure => simp [intOf]; first | exact Nat.mod_lt _ hy3 | omega
      · go_wp2_with fail
        go_quiet (fail)
        go_wp2
        go_roundw
        case rel => exact ⟨⟨_, by rw [World.drewN_drewN]⟩, y, x.tmod y, rfl, rfl, by rw [HS.out]; exact HG.out, g3, g4, b1, b2⟩
        case measure => simp [intOf]; first | exact Nat.mod_lt _ hy3 | omega
theorem gcd_any (a b : Int) (w : World) (h1 : -9000000000000000000 ≤ a) (h2 : a ≤ 9000000000000000000) (h3 : -9000000000000000000 ≤ b) (h4 : b ≤ 9000000000000000000) :
    Calls Tryz.prog 54 #[.int .i64 a, .int .i64 b] w fun e w' => e = .returned (.int .i64 (Int.gcd a b : Nat)) ∧ Below w.heap.size w w' :=
  (gcd_q a b w h1 h2 h3 h4).mono fun e w' ⟨he, n, hn⟩ => ⟨he, by rw [hn]; exact bdrewN (Below.refl _ _) n⟩
set_option maxHeartbeats 1000000 in
theorem l01Divisor_q (a b : Int) (w : World) (h1 : -9000000000000000000 ≤ a) (h2 : a ≤ 9000000000000000000) (h3 : -9000000000000000000 ≤ b) (h4 : b ≤ 9000000000000000000) :
    Calls Tryz.prog 59 #[.int .i64 a, .int .i64 b] w fun e w' => e = .returned (.int .i64 (Int.gcd a b : Nat)) ∧ ∃ n, w' = w.drewN n := by
  go_enter Tryz.func59, Tryz.ntmps59
  go_wp2_with (go_at_call 75; refine (specAbs_any _ _ (by omega) (by omega)).mono ?_; rintro e w' ⟨rfl, rfl⟩)
  go_loopw [0, 1] (fun p q wr => (∃ n, wr = w.drewN n) ∧ ∃ x y : Int, p = .int .i64 x ∧ q = .int .i64 y ∧ Int.gcd x y = Int.gcd a b ∧ 0 ≤ x ∧ x ≤ 9000000000000000000 ∧ 0 ≤ y ∧ y ≤ 9000000000000000000) (fun _ q _ => (intOf q).natAbs)
  case atStart => exact ⟨⟨0, rfl⟩, a.natAbs, b.natAbs, rfl, rfl, by simp [Int.gcd_eq_natAbs_gcd_natAbs], by omega, by omega, by omega, by omega⟩
  case round =>
    obtain ⟨⟨n, rfl⟩, x, y, rfl, rfl, hg, g1, g2, g3, g4⟩ := hrel
    have HG := Lib.hid hg; clear hg
    by_cases hy : 0 < y
    · obtain ⟨b1, b2, b3⟩ := tmod_bd (x := x) (y := y) (M := 9000000000000000000) (by omega) g4 (by omega)
      have HS := Lib.hid (gcd_step (x := x) (y := y))
      have hy2 : (y == 0) = false := beq_eq_false_iff_ne.2 (by omega)
      have e := Lib.hid (Int.tmod_eq_emod_of_nonneg g1 (b := y))
      rw [e.out] at b1 b2 b3
      have b4 := Int.emod_nonneg x (show y ≠ 0 by omega)
      go_wp2_with fail
      go_quiet (fail)
      go_wp2
      go_roundw
      case rel => exact ⟨⟨_, by rw [World.drewN_drewN]⟩, y, x % y, rfl, rfl, by rw [← e.out, HS.out]; exact HG.out, g3, g4, b4, b2⟩
      case measure => simp [intOf]; omega
    · obtain rfl : y = 0 := by omega
      go_wp2
      go_ret
      exact ⟨ret_int (by rw [← HG.out, Int.gcd_zero_right]; omega), n, rfl⟩
theorem l01Divisor_any (a b : Int) (w : World) (h1 : -9000000000000000000 ≤ a) (h2 : a ≤ 9000000000000000000) (h3 : -9000000000000000000 ≤ b) (h4 : b ≤ 9000000000000000000) :
    Calls Tryz.prog 59 #[.int .i64 a, .int .i64 b] w fun e w' => e = .returned (.int .i64 (Int.gcd a b : Nat)) ∧ Below w.heap.size w w' :=
  (l01Divisor_q a b w h1 h2 h3 h4).mono fun e w' ⟨he, n, hn⟩ => ⟨he, by rw [hn]; exact bdrewN (Below.refl _ _) n⟩
end Go.Proofs.YtopggkomkfjbfaaGreat
