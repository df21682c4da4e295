/- The directions of a fan, by the program and by the reference. -/
import Derived.Test.YtopggkomkfjbfaaMakeDir
import Derived.Test.YtopggkomkfjbfaaDir
import Derived.Test.YtopggkomkfjbfaaOwnK
import Derived.Test.YtopggkomkfjbfaaApp
import Derived.Deep.QuietTactic
import Derived.BigQuiet
import Derived.BigRegion
import Derived.Deep.RegionHeld3
namespace Go.Proofs.Ytopggkomkfjbfaa
set_option linter.unusedSimpArgs false
set_option linter.unusedVariables false
open Go.RowKit

def fanB (n lo hi : Int) : Bool := inB n 2 1000 && inB hi 1 (n - 1) && inB lo 1 hi && decide (n * n + hi * hi ≤ 1000)
theorem fan_md {n lo hi m : Int} (h : fanB n lo hi = true) (h1 : lo ≤ m) (h2 : m ≤ hi) : mdB m n = true := by
  simp only [fanB, Bool.and_eq_true, decide_eq_true_eq] at h
  obtain ⟨⟨⟨a, b⟩, c⟩, d⟩ := h
  have b' := inB_bd b; have c' := inB_bd c
  have e := Int.mul_le_mul h2 h2 (by omega) (by omega)
  have f : inB m 1 (n - 1) = true := by simp [inB]; omega
  unfold mdB
  rw [a, f, decide_eq_true (show n * n + m * m ≤ 1000 by omega)]; rfl
structure FanOk (n lo hi : Int) : Prop where
  n0 : 2 ≤ n
  n1 : n ≤ 31
  l0 : 1 ≤ lo
  l1 : lo ≤ hi
  h1 : hi ≤ n - 1
theorem fan_ok {n lo hi : Int} (h : fanB n lo hi = true) : FanOk n lo hi := by
  have g := h
  simp only [fanB, Bool.and_eq_true, decide_eq_true_eq] at g
  obtain ⟨⟨⟨a, b⟩, c⟩, d⟩ := g
  have a' := inB_bd a; have b' := inB_bd b; have c' := inB_bd c
  have k := mdOk_of (fan_md h c'.2 (Int.le_refl hi))
  exact ⟨a'.1, k.n1, c'.1, c'.2, b'.2⟩
/-- the cells of a direction of a fan -/
def fanE (n : Int) (dn : Bool) (m : Int) : List Value := [.int .i64 (mdC m n), .int .i64 (mdS m n dn), .int .i64 (mdH m n)]
def fanL (n lo : Int) (dn : Bool) (k : Nat) : List (List Value) := (List.range k).map fun (i : Nat) => fanE n dn (lo + (i : Int))
theorem fanL_len (n lo : Int) (dn : Bool) (k : Nat) : (fanL n lo dn k).length = k := by rw [fanL, List.length_map, List.length_range]
theorem fanL_next (n lo : Int) (dn : Bool) (k : Nat) : fanL n lo dn (k + 1) = fanL n lo dn k ++ [fanE n dn (lo + k)] := by rw [fanL, List.range_succ, List.map_append]; rfl
theorem fanL_three (n lo : Int) (dn : Bool) (k : Nat) : ∀ x ∈ fanL n lo dn k, x.length = 3 := fun x h => by
  obtain ⟨i, -, rfl⟩ := List.mem_map.1 h; rfl
theorem fan_cells {w : World} {A : Option Addr} {c K k : Nat} {n lo : Int} {dn : Bool} (h : KAt w A c 3 (fanL n lo dn K)) (hk : k < K) :
    ∃ b off, A = some ⟨b, off, none⟩ ∧ b < w.heap.size ∧ w.cell? ⟨b, off + k * 3, none⟩ = some (.int .i64 (mdC (lo + k) n)) ∧ w.cell? ⟨b, off + k * 3 + 1, none⟩ = some (.int .i64 (mdS (lo + k) n dn)) ∧ w.cell? ⟨b, off + k * 3 + 2, none⟩ = some (.int .i64 (mdH (lo + k) n)) := by
  obtain ⟨b, off, e, rfl, hb, he, hc⟩ := h.at_ (i := k) (by rw [fanL_len]; exact hk)
  rw [fanL, List.getElem?_map, List.getElem?_range hk] at he
  simp only [Option.map_some, Option.some.injEq] at he
  subst he
  exact ⟨b, off, rfl, hb, by have := hc 0 _ rfl; simpa using this, hc 1 _ rfl, hc 2 _ rfl⟩
theorem infoDir : (Try.prog.info? 34).map (fun i => (i.zero, i.size, i.bytes)) = some (some (.agg #[.int .i64 0, .int .i64 0, .int .i64 0]), 3, 24) := by kernel_rfl
/-- the directions of a fan are directions -/
def mdChk : Bool := (List.range 32).all fun n => (List.range 32).all fun m =>
  !mdB m n || (dirB (((n : Int) * n - m * m) / mdG m n) (2 * m * n / mdG m n) (((n : Int) * n + m * m) / mdG m n) && dirB (((n : Int) * n - m * m) / mdG m n) (-(2 * m * n / mdG m n)) (((n : Int) * n + m * m) / mdG m n))
theorem mdChk_true : mdChk = true := by decide +kernel
theorem md_dir {m n : Int} (dn : Bool) (h : mdB m n = true) : dirB (mdC m n) (mdS m n dn) (mdH m n) = true := by
  obtain ⟨g1, g2, g3, g4, -⟩ := md_good h
  have k := mdOk_of h
  obtain ⟨a, rfl⟩ := Int.eq_ofNat_of_zero_le (show 0 ≤ m by have := k.m0; omega)
  obtain ⟨b, rfl⟩ := Int.eq_ofNat_of_zero_le (show 0 ≤ n by have := k.n0; omega)
  have q := mdChk_true
  unfold mdChk at q
  have q1 := List.all_eq_true.1 (List.all_eq_true.1 q b (List.mem_range.2 (by have := k.n1; omega))) a (List.mem_range.2 (by have := k.m1; have := k.n1; omega))
  rw [h] at q1
  simp only [Bool.not_true, Bool.false_or, Bool.and_eq_true] at q1
  rw [g1, g4]
  cases dn
  · rw [g3]; exact q1.2
  · rw [g2]; exact q1.1
theorem md_sign {m n : Int} (dn : Bool) (h : mdB m n = true) : decide (0 < mdS m n dn) = dn := by
  obtain ⟨g1, g2, g3, g4, -⟩ := md_good h
  have k := mdOk_of h
  have hd : mdG m n ∣ 2 * m * n := by unfold mdG; exact Int.dvd_trans (Int.gcd_dvd_left _ _) (Int.gcd_dvd_right _ _)
  have hp : 0 < 2 * m * n / mdG m n := Int.ediv_pos_of_pos_of_dvd (by have := k.mn2; have := k.mn0; omega) (by have := k.g0; omega) hd
  cases dn
  · rw [g3]; exact decide_eq_false (by omega)
  · rw [g2]; exact decide_eq_true hp
set_option maxHeartbeats 1000000 in
theorem specIsFan_any (n lo hi : Int) (w : World) :
    Calls Try.prog 104 #[.int .i64 n, .int .i64 lo, .int .i64 hi] w fun e w' => e = .returned (.bool (fanB n lo hi)) ∧ Below w.heap.size w w' := by
  rcases Bool.eq_false_or_eq_true (inB n 2 1000) with h1 | h1
  rotate_left
  · have HE : Hid (fanB n lo hi = false) := Lib.hid (by simp [fanB, h1])
    go_enter Try.func104, Try.ntmps104
    go_wp2_with (go_at_call 77; refine (l01In_any _ _ _ _).mono ?_; rintro e w' ⟨rfl, rfl⟩)
    all_goals go_ret
    all_goals exact ⟨ret_bool (by rw [HE.out] <;> first | exact decide_eq_false (by omega) | exact decide_eq_true (by omega)), by go_grown⟩
  have a := inB_bd h1
  rcases Bool.eq_false_or_eq_true (inB hi 1 (n - 1)) with h2 | h2
  rotate_left
  · have HE : Hid (fanB n lo hi = false) := Lib.hid (by simp [fanB, h1, h2])
    go_enter Try.func104, Try.ntmps104
    go_wp2_with (go_at_call 77; refine (l01In_any _ _ _ _).mono ?_; rintro e w' ⟨rfl, rfl⟩)
    all_goals go_ret
    all_goals exact ⟨ret_bool (by rw [HE.out] <;> first | exact decide_eq_false (by omega) | exact decide_eq_true (by omega)), by go_grown⟩
  have b := inB_bd h2
  rcases Bool.eq_false_or_eq_true (inB lo 1 hi) with h3 | h3
  rotate_left
  · have HE : Hid (fanB n lo hi = false) := Lib.hid (by simp [fanB, h1, h2, h3])
    go_enter Try.func104, Try.ntmps104
    go_wp2_with (go_at_call 77; refine (l01In_any _ _ _ _).mono ?_; rintro e w' ⟨rfl, rfl⟩)
    all_goals go_ret
    all_goals exact ⟨ret_bool (by rw [HE.out] <;> first | exact decide_eq_false (by omega) | exact decide_eq_true (by omega)), by go_grown⟩
  have e1 := Int.mul_le_mul a.2 a.2 (show 0 ≤ n by omega) (by omega)
  have e2 := Int.mul_nonneg (show 0 ≤ n by omega) (show 0 ≤ n by omega)
  have e3 := Int.mul_le_mul (show hi ≤ 1000 by omega) (show hi ≤ 1000 by omega) (show 0 ≤ hi by omega) (by omega)
  have e4 := Int.mul_nonneg (show 0 ≤ hi by omega) (show 0 ≤ hi by omega)
  by_cases h4 : n * n + hi * hi ≤ 1000
  · have HE : Hid (fanB n lo hi = true) := Lib.hid (by simp [fanB, h1, h2, h3, h4])
    go_enter Try.func104, Try.ntmps104
    go_wp2_with (go_at_call 77; refine (l01In_any _ _ _ _).mono ?_; rintro e w' ⟨rfl, rfl⟩)
    all_goals go_ret
    all_goals exact ⟨ret_bool (by rw [HE.out] <;> first | exact decide_eq_false (by omega) | exact decide_eq_true (by omega)), by go_grown⟩
  · have HE : Hid (fanB n lo hi = false) := Lib.hid (by simp [fanB, h1, h2, h3, h4])
    go_enter Try.func104, Try.ntmps104
    go_wp2_with (go_at_call 77; refine (l01In_any _ _ _ _).mono ?_; rintro e w' ⟨rfl, rfl⟩)
    all_goals go_ret
    all_goals exact ⟨ret_bool (by rw [HE.out] <;> first | exact decide_eq_false (by omega) | exact decide_eq_true (by omega)), by go_grown⟩
set_option maxHeartbeats 1000000 in
theorem implIsFan_any (n lo hi : Int) (w : World) :
    Calls Try.prog 106 #[.int .i64 n, .int .i64 lo, .int .i64 hi] w fun e w' => e = .returned (.bool (fanB n lo hi)) ∧ Below w.heap.size w w' := by
  rcases Bool.eq_false_or_eq_true (inB n 2 1000) with h1 | h1
  rotate_left
  · have HE : Hid (fanB n lo hi = false) := Lib.hid (by simp [fanB, h1])
    go_enter Try.func106, Try.ntmps106
    go_wp2_with (go_at_call 84; refine (within_any _ _ _ _).mono ?_; rintro e w' ⟨rfl, rfl⟩)
    all_goals go_ret
    all_goals exact ⟨ret_bool (by rw [HE.out] <;> first | exact decide_eq_false (by omega) | exact decide_eq_true (by omega)), by go_grown⟩
  have a := inB_bd h1
  rcases Bool.eq_false_or_eq_true (inB hi 1 (n - 1)) with h2 | h2
  rotate_left
  · have HE : Hid (fanB n lo hi = false) := Lib.hid (by simp [fanB, h1, h2])
    go_enter Try.func106, Try.ntmps106
    go_wp2_with (go_at_call 84; refine (within_any _ _ _ _).mono ?_; rintro e w' ⟨rfl, rfl⟩)
    all_goals go_ret
    all_goals exact ⟨ret_bool (by rw [HE.out] <;> first | exact decide_eq_false (by omega) | exact decide_eq_true (by omega)), by go_grown⟩
  have b := inB_bd h2
  rcases Bool.eq_false_or_eq_true (inB lo 1 hi) with h3 | h3
  rotate_left
  · have HE : Hid (fanB n lo hi = false) := Lib.hid (by simp [fanB, h1, h2, h3])
    go_enter Try.func106, Try.ntmps106
    go_wp2_with (go_at_call 84; refine (within_any _ _ _ _).mono ?_; rintro e w' ⟨rfl, rfl⟩)
    all_goals go_ret
    all_goals exact ⟨ret_bool (by rw [HE.out] <;> first | exact decide_eq_false (by omega) | exact decide_eq_true (by omega)), by go_grown⟩
  have e1 := Int.mul_le_mul a.2 a.2 (show 0 ≤ n by omega) (by omega)
  have e2 := Int.mul_nonneg (show 0 ≤ n by omega) (show 0 ≤ n by omega)
  have e3 := Int.mul_le_mul (show hi ≤ 1000 by omega) (show hi ≤ 1000 by omega) (show 0 ≤ hi by omega) (by omega)
  have e4 := Int.mul_nonneg (show 0 ≤ hi by omega) (show 0 ≤ hi by omega)
  by_cases h4 : n * n + hi * hi ≤ 1000
  · have HE : Hid (fanB n lo hi = true) := Lib.hid (by simp [fanB, h1, h2, h3, h4])
    go_enter Try.func106, Try.ntmps106
    go_wp2_with (go_at_call 84; refine (within_any _ _ _ _).mono ?_; rintro e w' ⟨rfl, rfl⟩)
    all_goals go_ret
    all_goals exact ⟨ret_bool (by rw [HE.out] <;> first | exact decide_eq_false (by omega) | exact decide_eq_true (by omega)), by go_grown⟩
  · have HE : Hid (fanB n lo hi = false) := Lib.hid (by simp [fanB, h1, h2, h3, h4])
    go_enter Try.func106, Try.ntmps106
    go_wp2_with (go_at_call 84; refine (within_any _ _ _ _).mono ?_; rintro e w' ⟨rfl, rfl⟩)
    all_goals go_ret
    all_goals exact ⟨ret_bool (by rw [HE.out] <;> first | exact decide_eq_false (by omega) | exact decide_eq_true (by omega)), by go_grown⟩
set_option maxRecDepth 100000 in
set_option maxHeartbeats 4000000 in
theorem makeDir_any (m n : Int) (dn : Bool) (w : World) (hb : mdB m n = true) :
    Calls Try.prog 107 #[.int .i64 m, .int .i64 n, .bool dn] w fun e w' => e = .returned (dirV (mdC m n) (mdS m n dn) (mdH m n)) ∧ Below w.heap.size w w' := by
  obtain ⟨g1, g2, g3, g4, g5⟩ := md_good hb
  obtain ⟨k1, k2, k3, k4, k5, k6, k7, k8, k9, k10, k11, k12, k13, k14, k15⟩ := mdOk_of hb
  have G1 := Lib.hid g1; have G2 := Lib.hid g2; have G3 := Lib.hid g3; have G4 := Lib.hid g4; have G5 := Lib.hid g5
  have K11 := Lib.hid k11
  obtain ⟨mn, hmn⟩ : ∃ mn, m * n = mn := ⟨_, rfl⟩
  clear g1 g2 g3 g4 g5 hb
  have s1 : 0 ≤ 2 * m * n := by omega
  have s2 : 2 * m * n ≤ 1860 := by omega
  clear hmn k11
  go_enter Try.func107, Try.ntmps107
  go_upto_region 2 with fail
  have hG0 : mdG m n = ((Int.gcd ((Int.gcd (n * n - m * m) (2 * m * n) : Nat) : Int) (n * n + m * m) : Nat) : Int) := rfl
  have d0 : 0 < n * n - m * m := by omega
  have d1 : n * n - m * m ≤ 1000 := by omega
  have d2 : 0 < n * n + m * m := by omega
  generalize n * n - m * m = C at *
  generalize 2 * m * n = Sx at *
  generalize n * n + m * m = Hh at *
  generalize mdG m n = G at *
  have hd : ((Int.gcd C Sx : Nat) : Int) ∣ C := Int.gcd_dvd_left C Sx
  have hd2 := Int.le_of_dvd (by omega) hd
  have hd3 : (0 : Int) ≤ ((Int.gcd C Sx : Nat) : Int) := Int.natCast_nonneg _
  clear hd
  have v1_ : 0 ≤ C / G ∧ C / G ≤ C := ⟨Int.ediv_nonneg (by omega) (by omega), Int.ediv_le_self _ (by omega)⟩
  have v2_ : 0 ≤ Sx / G ∧ Sx / G ≤ Sx := ⟨Int.ediv_nonneg (by omega) (by omega), Int.ediv_le_self _ (by omega)⟩
  have v3_ : 0 ≤ Hh / G ∧ Hh / G ≤ Hh := ⟨Int.ediv_nonneg (by omega) (by omega), Int.ediv_le_self _ (by omega)⟩
  obtain ⟨C', hC'⟩ : ∃ x, C / G = x := ⟨_, rfl⟩
  obtain ⟨S', hS'⟩ : ∃ x, Sx / G = x := ⟨_, rfl⟩
  obtain ⟨H', hH'⟩ : ∃ x, Hh / G = x := ⟨_, rfl⟩
  have T1 : C.tdiv G = C' := by rw [Int.tdiv_eq_ediv_of_nonneg (by omega)]; exact hC'
  have T2 : Sx.tdiv G = S' := by rw [Int.tdiv_eq_ediv_of_nonneg (by omega)]; exact hS'
  have T3 : Hh.tdiv G = H' := by rw [Int.tdiv_eq_ediv_of_nonneg (by omega)]; exact hH'
  rw [hC'] at v1_
  rw [hS'] at v2_
  rw [hH'] at v3_
  have HG := Lib.hid hG0; have HC' := Lib.hid hC'; have HS' := Lib.hid hS'; have HH' := Lib.hid hH'; have HT := Lib.hid (And.intro T1 (And.intro T2 T3))
  clear hG0 hC' hS' hH' T1 T2 T3
  refine genS (S := fun w' => Below w.heap.size w w' ∧ w.heap.size + 1 < w'.heap.size ∧ w'.cell? ⟨w.heap.size, 0, none⟩ = some (.int .i64 0) ∧ w'.cell? ⟨w.heap.size, 1, none⟩ = some (.int .i64 0) ∧ w'.cell? ⟨w.heap.size, 2, none⟩ = some (.int .i64 0) ∧ w'.cell? ⟨w.heap.size + 1, 0, none⟩ = some (.int .i64 C) ∧ w'.cell? ⟨w.heap.size + 1, 1, none⟩ = some (.int .i64 Sx) ∧ w'.cell? ⟨w.heap.size + 1, 2, none⟩ = some (.int .i64 Hh) ∧ (∀ o, w'.frozen? ⟨w.heap.size, o, none⟩ = false) ∧ (∀ o, w'.frozen? ⟨w.heap.size + 1, o, none⟩ = false)) ⟨by go_grown, by first | omega | (simp; done) | (simp; omega), by simp [*, go_sem], by simp [*, go_sem], by simp [*, go_sem], by simp [*, go_sem], by simp [*, go_sem], by simp [*, go_sem], fun o => by simp [*, go_sem], fun o => by simp [*, go_sem]⟩ ?_
  rintro w3 ⟨B3, lt3, r0, r1, r2, r3, r4, r5, fR, fD⟩
  clear k5 k6 k7 k8 k9 k10
  go_quiet ((go_at_call 126; exact q_drew (gcd_q _ _ _ (by omega) (by omega) (by omega) (by omega))))
  rw [← HG.out]
  obtain ⟨t1, t2, t3⟩ := HT.out
  have gnz : ¬ G = 0 := by omega
  have u1 : 0 ≤ C' := v1_.1
  have u2 : C' ≤ 1000 := by omega
  have u3 : 0 ≤ S' := v2_.1
  have u4 : S' ≤ 2000 := by omega
  have u5 : 0 ≤ H' := v3_.1
  have u6 : H' ≤ 1000 := by omega
  go_upto_region 3 with fail
  refine genS (S := fun w' => Below w.heap.size w w' ∧ w.heap.size + 1 < w'.heap.size ∧ w'.cell? ⟨w.heap.size, 0, none⟩ = some (.int .i64 0) ∧ w'.cell? ⟨w.heap.size, 1, none⟩ = some (.int .i64 0) ∧ w'.cell? ⟨w.heap.size, 2, none⟩ = some (.int .i64 0) ∧ w'.cell? ⟨w.heap.size + 1, 0, none⟩ = some (.int .i64 C) ∧ w'.cell? ⟨w.heap.size + 1, 1, none⟩ = some (.int .i64 Sx) ∧ w'.cell? ⟨w.heap.size + 1, 2, none⟩ = some (.int .i64 Hh) ∧ (∀ o, w'.frozen? ⟨w.heap.size, o, none⟩ = false) ∧ (∀ o, w'.frozen? ⟨w.heap.size + 1, o, none⟩ = false)) ⟨(by first | exact B3 | exact bdrewN B3 _), by first | omega | (simp; done) | (simp; omega), by simp [*, go_sem], by simp [*, go_sem], by simp [*, go_sem], by simp [*, go_sem], by simp [*, go_sem], by simp [*, go_sem], fun o => by simp [*, go_sem], fun o => by simp [*, go_sem]⟩ ?_
  clear B3 lt3 r0 r1 r2 r3 r4 r5 fR fD v1_ v2_ v3_ s1 s2 hd2 hd3
  rintro w4 ⟨B4, lt4, r0, r1, r2, r3, r4, r5, fR, fD⟩
  have ne1 : (w.heap.size = w.heap.size + 1) = False := eq_false (by omega)
  go_region
  refine genS (S := fun w' => Below w.heap.size w w' ∧ w.heap.size + 1 < w'.heap.size ∧ w'.cell? ⟨w.heap.size, 0, none⟩ = some (.int .i64 0) ∧ w'.cell? ⟨w.heap.size, 1, none⟩ = some (.int .i64 0) ∧ w'.cell? ⟨w.heap.size, 2, none⟩ = some (.int .i64 0) ∧ w'.cell? ⟨w.heap.size + 1, 0, none⟩ = some (.int .i64 C') ∧ w'.cell? ⟨w.heap.size + 1, 1, none⟩ = some (.int .i64 S') ∧ w'.cell? ⟨w.heap.size + 1, 2, none⟩ = some (.int .i64 H') ∧ (∀ o, w'.frozen? ⟨w.heap.size, o, none⟩ = false) ∧ (∀ o, w'.frozen? ⟨w.heap.size + 1, o, none⟩ = false)) ⟨(by first | (go_grown; done) | exact bdrewN (by go_grown) _), by first | omega | (simp; done) | (simp; omega), by simp [*, go_sem], by simp [*, go_sem], by simp [*, go_sem], by simp [*, go_sem], by simp [*, go_sem], by simp [*, go_sem], fun o => by simp [*, go_sem], fun o => by simp [*, go_sem]⟩ ?_
  clear B4 lt4 r0 r1 r2 r3 r4 r5 fR fD
  rintro w5 ⟨B5, lt5, r0, r1, r2, r3, r4, r5, fR, fD⟩
  cases dn with
  | true =>
    go_wp2
    refine bodyPost_ret (v := dirV C' S' H') (by simp [results, Try.results107, go_sem, *] <;> rfl) rfl ?_
    exact ⟨by rw [G1.out, G2.out, G4.out, HC'.out, HS'.out, HH'.out], by first | (go_grown; done) | exact bdrewN (by go_grown) _⟩
  | false =>
    go_upto_region 6 with fail
    refine genS (S := fun w' => Below w.heap.size w w' ∧ w.heap.size + 1 < w'.heap.size ∧ w'.cell? ⟨w.heap.size, 0, none⟩ = some (.int .i64 0) ∧ w'.cell? ⟨w.heap.size, 1, none⟩ = some (.int .i64 0) ∧ w'.cell? ⟨w.heap.size, 2, none⟩ = some (.int .i64 0) ∧ w'.cell? ⟨w.heap.size + 1, 0, none⟩ = some (.int .i64 C') ∧ w'.cell? ⟨w.heap.size + 1, 1, none⟩ = some (.int .i64 (-S')) ∧ w'.cell? ⟨w.heap.size + 1, 2, none⟩ = some (.int .i64 H') ∧ (∀ o, w'.frozen? ⟨w.heap.size, o, none⟩ = false)) ⟨(by first | (go_grown; done) | exact bdrewN (by go_grown) _), by first | omega | (simp; done) | (simp; omega), by simp [*, go_sem], by simp [*, go_sem], by simp [*, go_sem], by simp [*, go_sem], by simp [*, go_sem], by simp [*, go_sem], fun o => by simp [*, go_sem]⟩ ?_
    clear B5 lt5 r0 r1 r2 r3 r4 r5 fR fD
    rintro w6 ⟨B6, lt6, r0, r1, r2, r3, r4, r5, fR⟩
    go_wp2
    refine bodyPost_ret (v := dirV C' (-S') H') (by simp [results, Try.results107, go_sem, *] <;> rfl) rfl ?_
    exact ⟨by rw [G1.out, G3.out, G4.out, HC'.out, HS'.out, HH'.out], by first | (go_grown; done) | exact bdrewN (by go_grown) _⟩
set_option maxRecDepth 4000 in
set_option maxHeartbeats 4000000 in
theorem l08Fan_any (n lo hi : Int) (dn : Bool) (K : Nat) (w : World) (hf : fanB n lo hi = true) (hK1 : hi + 1 ≤ lo + K) (hK2 : lo + K ≤ hi + 1) :
    Calls Try.prog 105 #[.int .i64 n, .int .i64 lo, .int .i64 hi, .bool dn] w fun e w' =>
      (∃ A' c', e = .returned (.slice A' K c') ∧ ResK w' w.heap.size w'.heap.size A' c' 3 (fanL n lo dn K)) ∧ Below w.heap.size w w' := by
  obtain ⟨f1, f2, f3, f4, f5⟩ := fan_ok hf
  go_enter Try.func105, Try.ntmps105
  go_wp2
  go_loopw [9, 10] (fun v i wr => Below w.heap.size w wr ∧ ∃ k : Nat, k ≤ K ∧ i = .int .i64 (lo + k) ∧ OwnK wr w.heap.size 34 3 v (fanL n lo dn k)) (fun _ i _ => (hi + 1 - intOf i).toNat)
  case atStart => exact ⟨by first | exact Below.refl _ _ | go_grown, 0, by omega, by first | rfl | (simp; done) | go_num, OwnK.zero (Nat.le_refl _)⟩
  case round =>
    obtain ⟨Br, k, hk, rfl, A', c', rfl, hc', hown, hall⟩ := hrel
    simp only [fanL_len] at hown ⊢
    have HO := Lib.hid hown; have HA := Lib.hid hall; clear hown hall
    have sr := Br.size
    have HBr := Lib.hid Br
    clear Br
    by_cases hlt : k < K
    · have g1 : lo + (k : Int) ≤ hi := by omega
      go_wp2_with (first
        | (go_at_call 117; refine (specMakeDir_any _ _ _ _).mono ?_; rintro e w4 ⟨rfl, hb4⟩; have K4 := Keep.of_below (lo := w.heap.size) hb4; obtain ⟨B4, hz4, q4, s4, t4, x4, y4, z4⟩ := bkeep (w := wr) [] (by first | (simp; done) | (simp; omega)) (by first | (go_grown; done) | exact bdrewN (by go_grown) _) hb4; (try simp at hz4); clear hb4)
        | (at_builtin; refine appG rfl _ _ 115 rfl w.heap.size 34 (.agg #[.int .i64 0, .int .i64 0, .int .i64 0]) 3 24 Try.underlying115 infoDir rfl (by omega) (fanE n dn (lo + k)) rfl (by intro u hu; simp [fanE] at hu; rcases hu with rfl | rfl | rfl <;> rfl) _ _ _ rfl _ rfl (own_keep HO.out (by repeat' (first | with_reducible exact K4 | with_reducible exact Keep.refl _ _ _ | with_reducible refine Keep.setB ?_ ?_ _ | with_reducible refine Keep.alloc ?_ ?_ _ | with_reducible refine Keep.drew ?_ | omega | (simp; done) | (simp; omega)))) ?_ ?_ ?_ ?_ ?_; (focus (intro j u hj; match j, hj with | 0, hj => (simp [fanE] at hj; subst hj; simp [*, go_sem]) | 1, hj => (simp [fanE] at hj; subst hj; simp [*, go_sem]) | 2, hj => (simp [fanE] at hj; subst hj; simp [*, go_sem]) | j + 3, hj => simp [fanE] at hj)); (focus (unfold maxLen; omega)); (focus omega); (focus (first | omega | (simp; omega))); intro v6 w6 hown6 hg6 _; have C6 := Below.grow (B := w.heap.size) (w0 := w) (by have hb_ := HBr.out.trans (B4.mono (show w.heap.size ≤ wr.heap.size by omega)); first | exact hb_ | (go_grown; done)) hg6 (fun b hb => by have := HO.out.lt b hb; omega) (by first | omega | (simp; omega)); clear hg6; obtain ⟨A14, c14, rfl, hc14⟩ := owns_form hown6; have O6 := Lib.hid hown6; clear hown6))
      go_roundw
      case rel => exact ⟨C6, k + 1, by omega, by first | go_num | (simp; omega), OwnK.next (els := fanL n lo dn k) (fanL_next _ _ _ _) (by rw [fanL_len]; exact O6.out) HA.out rfl⟩
      case measure => simp [intOf]; omega
    · obtain rfl : k = K := by omega
      have g1 : hi < lo + (k : Int) := by omega
      go_wp2
      go_ret
      refine ⟨⟨A', c', rfl, ?_⟩, HBr.out⟩
      exact ((OwnK.res (n := k) (els := fanL n lo dn k) ⟨A', c', by rw [fanL_len], hc', by rw [fanL_len]; exact HO.out, HA.out⟩).2).mono (by omega) (Nat.le_refl _)
set_option maxRecDepth 4000 in
set_option maxHeartbeats 4000000 in
theorem fanOf_any (n lo hi : Int) (dn : Bool) (K : Nat) (w : World) (hf : fanB n lo hi = true) (hK1 : hi + 1 ≤ lo + K) (hK2 : lo + K ≤ hi + 1) :
    Calls Try.prog 66 #[.int .i64 n, .int .i64 lo, .int .i64 hi, .bool dn] w fun e w' =>
      (∃ A' c', e = .returned (.slice A' K c') ∧ ResK w' w.heap.size w'.heap.size A' c' 3 (fanL n lo dn K)) ∧ Below w.heap.size w w' := by
  obtain ⟨f1, f2, f3, f4, f5⟩ := fan_ok hf
  go_enter Try.func66, Try.ntmps66
  go_wp2
  go_loopw [9, 10] (fun v i wr => Below w.heap.size w wr ∧ ∃ k : Nat, k ≤ K ∧ i = .int .i64 (lo + k) ∧ OwnK wr w.heap.size 34 3 v (fanL n lo dn k)) (fun _ i _ => (hi + 1 - intOf i).toNat)
  case atStart => exact ⟨by first | exact Below.refl _ _ | go_grown, 0, by omega, by first | rfl | (simp; done) | go_num, OwnK.none_ _ _ _ _⟩
  case round =>
    obtain ⟨Br, k, hk, rfl, A', c', rfl, hc', hown, hall⟩ := hrel
    simp only [fanL_len] at hown ⊢
    have HO := Lib.hid hown; have HA := Lib.hid hall; clear hown hall
    have sr := Br.size
    have HBr := Lib.hid Br
    clear Br
    by_cases hlt : k < K
    · have g1 : lo + (k : Int) ≤ hi := by omega
      go_wp2_with (first
        | (go_at_call 107; refine (makeDir_any _ _ _ _ (fan_md hf (by omega) (by omega))).mono ?_; rintro e w4 ⟨rfl, hb4⟩; have K4 := Keep.of_below (lo := w.heap.size) hb4; obtain ⟨B4, hz4, q4, s4, t4, x4, y4, z4⟩ := bkeep (w := wr) [] (by first | (simp; done) | (simp; omega)) (by first | (go_grown; done) | exact bdrewN (by go_grown) _) hb4; (try simp at hz4); clear hb4)
        | (at_builtin; refine appG rfl _ _ 115 rfl w.heap.size 34 (.agg #[.int .i64 0, .int .i64 0, .int .i64 0]) 3 24 Try.underlying115 infoDir rfl (by omega) (fanE n dn (lo + k)) rfl (by intro u hu; simp [fanE] at hu; rcases hu with rfl | rfl | rfl <;> rfl) _ _ _ rfl _ rfl (own_keep HO.out (by repeat' (first | with_reducible exact K4 | with_reducible exact Keep.refl _ _ _ | with_reducible refine Keep.setB ?_ ?_ _ | with_reducible refine Keep.alloc ?_ ?_ _ | with_reducible refine Keep.drew ?_ | omega | (simp; done) | (simp; omega)))) ?_ ?_ ?_ ?_ ?_; (focus (intro j u hj; match j, hj with | 0, hj => (simp [fanE] at hj; subst hj; simp [*, go_sem]) | 1, hj => (simp [fanE] at hj; subst hj; simp [*, go_sem]) | 2, hj => (simp [fanE] at hj; subst hj; simp [*, go_sem]) | j + 3, hj => simp [fanE] at hj)); (focus (unfold maxLen; omega)); (focus omega); (focus (first | omega | (simp; omega))); intro v6 w6 hown6 hg6 _; have C6 := Below.grow (B := w.heap.size) (w0 := w) (by have hb_ := HBr.out.trans (B4.mono (show w.heap.size ≤ wr.heap.size by omega)); first | exact hb_ | (go_grown; done)) hg6 (fun b hb => by have := HO.out.lt b hb; omega) (by first | omega | (simp; omega)); clear hg6; obtain ⟨A14, c14, rfl, hc14⟩ := owns_form hown6; have O6 := Lib.hid hown6; clear hown6))
      go_roundw
      case rel => exact ⟨C6, k + 1, by omega, by first | go_num | (simp; omega), OwnK.next (els := fanL n lo dn k) (fanL_next _ _ _ _) (by rw [fanL_len]; exact O6.out) HA.out rfl⟩
      case measure => simp [intOf]; omega
    · obtain rfl : k = K := by omega
      have g1 : hi < lo + (k : Int) := by omega
      go_wp2
      go_ret
      refine ⟨⟨A', c', rfl, ?_⟩, HBr.out⟩
      exact ((OwnK.res (n := k) (els := fanL n lo dn k) ⟨A', c', by rw [fanL_len], hc', by rw [fanL_len]; exact HO.out, HA.out⟩).2).mono (by omega) (Nat.le_refl _)
end Go.Proofs.Ytopggkomkfjbfaa
