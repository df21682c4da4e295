/- The law of FnLevels: levels and their mean lie between the least and the greatest reading. -/
import Derived.Test.YtjabldjffpjkeaaDrawLev
import Derived.Test.YtjabldjffpjkeaaLev2
import Derived.Test.YtjabldjffpjkeaaSpan
import Derived.Test.YtjabldjffpjkeaaBig
namespace Go.Proofs.Ytjabldjffpjkeaa
set_option linter.unusedSimpArgs false
set_option linter.unusedVariables false
open Go.RowKit

theorem edge_bd {a z d : Int} (hd : 0 < d) (h0 : 0 < z) (h1 : z < d) : min 0 a ≤ a * z / d ∧ a * z / d ≤ max 0 a := by
  by_cases ha : 0 ≤ a
  · have e1 := Int.mul_nonneg ha (show 0 ≤ z by omega)
    have e2 := Int.mul_le_mul_of_nonneg_left (show z ≤ d by omega) ha
    have e3 : a * z / d ≤ a := by
      have : a * z / d ≤ a * d / d := Int.ediv_le_ediv hd e2
      rwa [Int.mul_ediv_cancel _ (by omega)] at this
    have e4 := Int.ediv_nonneg e1 (show 0 ≤ d by omega)
    omega
  · have e2 : a * d ≤ a * z := by
      have := Int.mul_le_mul_of_nonneg_left (show z ≤ d by omega) (show 0 ≤ -a by omega)
      rw [Int.neg_mul, Int.neg_mul] at this
      omega
    have e1 : a * z ≤ 0 := by
      have := Int.mul_nonneg (show 0 ≤ -a by omega) (show 0 ≤ z by omega)
      rw [Int.neg_mul] at this
      omega
    have e3 : a ≤ a * z / d := by
      have : a * d / d ≤ a * z / d := Int.ediv_le_ediv hd e2
      rwa [Int.mul_ediv_cancel _ (by omega)] at this
    have e4 : a * z / d ≤ 0 := by
      have : a * z / d ≤ 0 / d := Int.ediv_le_ediv hd e1
      simpa using this
    omega
theorem ceil_gap {n d : Int} (hd : 0 < d) : n / d ≤ -(-n / d) ∧ -(-n / d) ≤ n / d + 1 := by
  have h1 := Int.mul_ediv_add_emod n d
  have h2 := Int.emod_nonneg n (show d ≠ 0 by omega)
  have h3 := Int.emod_lt_of_pos n hd
  obtain ⟨q, hq⟩ : ∃ q, n / d = q := ⟨_, rfl⟩
  obtain ⟨r, hr⟩ : ∃ r, n % d = r := ⟨_, rfl⟩
  rw [hq] at h1 ⊢
  rw [hr] at h1 h2 h3
  have e : -n = d * (-q) + -r := by rw [Int.mul_neg]; omega
  constructor
  · have : -n / d ≤ -q := by
      have h4 : -n ≤ d * (-q) := by omega
      have := Int.ediv_le_ediv hd h4
      rwa [Int.mul_ediv_cancel_left _ (by omega)] at this
    omega
  · have : -q - 1 ≤ -n / d := by
      have h4 : d * (-q - 1) ≤ -n := by rw [Int.mul_sub]; omega
      have := Int.ediv_le_ediv hd h4
      rwa [Int.mul_ediv_cancel_left _ (by omega)] at this
    omega
/-- what the law asks of a level -/
theorem level_ok {ts ls : List Int} {x : Int} (h : lvE ts ls x = 0) : gauB ts ls = true ∧ spLo ts ls ≤ lvLo ts ls x ∧ lvHi ts ls x ≤ spHi ts ls ∧ lvHi ts ls x - lvLo ts ls x ≤ 1 ∧ lvLo ts ls x ≤ lvHi ts ls x := by
  have hg : gauB ts ls = true := by
    cases hh : gauB ts ls with
    | true => rfl
    | false => have := (lv_bad (x := x) hh).1; omega
  refine ⟨hg, ?_⟩
  obtain ⟨e0, e1, e2⟩ := lv_good (x := x) hg
  obtain ⟨-, s1, s2⟩ := sp_ok hg
  have p := gauOk_of hg
  have l3 := p.l3; have l4 := p.l4; have l1 := p.l1
  rw [e1, e2, s1, s2]
  rw [e0] at h
  have mm := fun (j : Nat) (hj : j < ts.length) => mnP_le ls ls.length j (by omega)
  by_cases hin : inB x 0 1000000 = true
  · obtain ⟨i, hi⟩ : ∃ i, bsI ts x = i := ⟨_, rfl⟩
    by_cases hf : i < ts.length ∧ spd ts i = x
    · obtain ⟨-, a1, a2⟩ := lv_found (ls := ls) hin hi hf.1 hf.2
      rw [a1, a2]
      have := mm i hf.1
      omega
    · by_cases he : i = 0 ∨ i = ts.length
      · have := (lv_edge (ls := ls) hin hi hf he).1
        omega
      · obtain ⟨k, rfl⟩ : ∃ k, i = k + 1 := ⟨i - 1, by omega⟩
        have hle := (bs_at p x).le
        have hk : k + 1 < ts.length := by omega
        have hne : spd ts ((k : Int) + 1) ≠ x := by
          intro e
          exact hf ⟨hk, by rw [show ((k + 1 : Nat) : Int) = (k : Int) + 1 by omega]; exact e⟩
        obtain ⟨-, a1, a2⟩ := lv_inner (ls := ls) hin hi hk hne
        have q := lvOk p hi hk hne
        rw [a1, a2]
        have m0 := mm k (by omega)
        have m1 := mm (k + 1) hk
        rw [show ((k + 1 : Nat) : Int) = (k : Int) + 1 by omega] at m1
        have q0 := q.z0; have q1 := q.z1; have q2 := q.d1
        have f1 := edge_bd (a := spd ls ((k : Int) + 1) - spd ls k) (z := x - spd ts k) (d := spd ts ((k : Int) + 1) - spd ts k) (by omega) (by omega) (by omega)
        have f2 := edge_bd (a := -(spd ls ((k : Int) + 1) - spd ls k)) (z := x - spd ts k) (d := spd ts ((k : Int) + 1) - spd ts k) (by omega) (by omega) (by omega)
        rw [Int.neg_mul] at f2
        have f3 := ceil_gap (n := (spd ls ((k : Int) + 1) - spd ls k) * (x - spd ts k)) (d := spd ts ((k : Int) + 1) - spd ts k) (by omega)
        clear p q hi hle hne hf he
        generalize (spd ls ((k : Int) + 1) - spd ls k) * (x - spd ts k) / (spd ts ((k : Int) + 1) - spd ts k) = A at *
        generalize -((spd ls ((k : Int) + 1) - spd ls k) * (x - spd ts k)) / (spd ts ((k : Int) + 1) - spd ts k) = B at *
        omega
  · have := (lv_out (ts := ts) (ls := ls) hin).1
    omega
theorem sp_bd {ts ls : List Int} (hg : gauB ts ls = true) : -2000 ≤ spLo ts ls ∧ spHi ts ls ≤ 2000 := by
  obtain ⟨-, s1, s2⟩ := sp_ok hg
  have p := gauOk_of hg
  have l1 := p.l1; have l3 := p.l3; have l4 := p.l4
  have := mnP_bd (ls := ls) (a := -2000) (b := 2000) ls.length (p.v 0 (by omega)) (fun j hj => p.v j (by omega))
  omega
theorem ml_span {ts ls : List Int} (p : GauOk ts ls) {lo hi : Int} (hv : ∀ k : Nat, k < ts.length → lo ≤ spd ls k ∧ spd ls k ≤ hi) : ∀ k : Nat, k < ts.length → lo * (2 * (spd ts k - spd ts 0)) ≤ mlF ts ls k ∧ mlF ts ls k ≤ hi * (2 * (spd ts k - spd ts 0)) := by
  intro k
  induction k with
  | zero => intro _; simp [mlF]
  | succ k ih =>
    intro h
    have h1 := ih (by omega)
    have q := mlOk p h
    have v0 := hv k (by omega)
    have v1 := hv (k + 1) h
    rw [show ((k + 1 : Nat) : Int) = (k : Int) + 1 by omega] at v1 ⊢
    simp only [mlF]
    obtain ⟨d, hd⟩ : ∃ d, spd ts ((k : Int) + 1) - spd ts k = d := ⟨_, rfl⟩
    have hd0 : 0 ≤ d := by have := q.d1; omega
    rw [hd]
    have e1 := Int.mul_le_mul_of_nonneg_right (show 2 * lo ≤ spd ls k + spd ls ((k : Int) + 1) by omega) hd0
    have e2 := Int.mul_le_mul_of_nonneg_right (show spd ls k + spd ls ((k : Int) + 1) ≤ 2 * hi by omega) hd0
    have e3 : lo * (2 * (spd ts ((k : Int) + 1) - spd ts 0)) = lo * (2 * (spd ts k - spd ts 0)) + 2 * lo * d := by
      rw [show spd ts ((k : Int) + 1) - spd ts 0 = (spd ts k - spd ts 0) + d by omega, Int.mul_add, Int.mul_add, Int.mul_comm 2 lo, Int.mul_assoc]
    have e4 : hi * (2 * (spd ts ((k : Int) + 1) - spd ts 0)) = hi * (2 * (spd ts k - spd ts 0)) + 2 * hi * d := by
      rw [show spd ts ((k : Int) + 1) - spd ts 0 = (spd ts k - spd ts 0) + d by omega, Int.mul_add, Int.mul_add, Int.mul_comm 2 hi, Int.mul_assoc]
    omega
/-- what the law asks of the mean -/
theorem mean_ok {ts ls : List Int} (h : mlC ts ls = 0) : spLo ts ls * mlD ts ls ≤ mlN ts ls ∧ mlN ts ls ≤ spHi ts ls * mlD ts ls ∧ 1 ≤ mlD ts ls ∧ mlD ts ls ≤ 1000000000 ∧ -2000 ≤ spLo ts ls ∧ spLo ts ls ≤ 2000 ∧ -2000 ≤ spHi ts ls ∧ spHi ts ls ≤ 2000 := by
  have hg : gauB ts ls = true := by
    cases hh : gauB ts ls with
    | true => rfl
    | false => have := (ml_bad hh).1; omega
  have p := gauOk_of hg
  have l1 := p.l1; have l3 := p.l3; have l4 := p.l4
  by_cases h1 : ts.length = 1
  · have := (ml_one hg h1).1; omega
  · obtain ⟨m, hm⟩ : ∃ m, ts.length = m + 2 := ⟨ts.length - 2, by omega⟩
    obtain ⟨e0, e1, e2⟩ := ml_more hg hm
    obtain ⟨-, s1, s2⟩ := sp_ok hg
    have mm := fun (j : Nat) (hj : j < ts.length) => mnP_le ls ls.length j (by omega)
    have bd := ml_span p mm (m + 1) (by omega)
    have vb := fun (j : Nat) (hj : j < ts.length) => p.v j hj
    have v0 := vb 0 (by omega)
    have mb := mnP_bd (ls := ls) (a := -2000) (b := 2000) ls.length (vb 0 (by omega)) (fun j hj => vb j (by omega))
    have m0 := mm 0 (by omega)
    have t0 := p.t 0 (by omega); have t1 := p.t (m + 1) (by omega); have t2 := p.up 0 (m + 1) (by omega) (by omega)
    have f0 := ml_bd2 p (show m + 1 < ts.length by omega)
    rw [show ((m + 1 : Nat) : Int) = (m : Int) + 1 by omega] at bd t1 t2
    rw [show ((0 : Nat) : Int) = 0 by omega] at t0 t2 m0
    rw [e0] at h
    rw [e1, e2, s1, s2]
    generalize mnP ls ls.length = lo at *
    generalize mxP ls ls.length = hi at *
    obtain ⟨S, hS⟩ : ∃ S, mlF ts ls (m + 1) = S := ⟨_, rfl⟩
    obtain ⟨d, hd⟩ : ∃ d, 2 * (spd ts ((m : Int) + 1) - spd ts 0) = d := ⟨_, rfl⟩
    rw [hS] at bd f0 h ⊢
    rw [hd] at bd h ⊢
    have hd1 : 1 ≤ d := by omega
    have hok : ratOk S d = true := by
      unfold ratC at h
      cases hh : ratOk S d with
      | true => rfl
      | false => rw [hh] at h; simp at h
    unfold ratN ratD
    rw [hok]
    simp only [if_true]
    have hp : 0 < Int.gcd S d := Int.gcd_pos_of_ne_zero_right S (by omega)
    have g0 : 1 ≤ gcI S d := by unfold gcI; omega
    have k1 := Int.ediv_mul_cancel (show gcI S d ∣ S from Int.gcd_dvd_left S d)
    have k2 := Int.ediv_mul_cancel (show gcI S d ∣ d from Int.gcd_dvd_right S d)
    change rnE S d * gcI S d = S at k1
    change rdE S d * gcI S d = d at k2
    generalize rnE S d = N at *
    generalize rdE S d = D at *
    generalize gcI S d = g at *
    have hD : 1 ≤ D := by
      rcases Int.lt_or_le 0 D with q | q
      · omega
      · have := Int.mul_nonneg (show 0 ≤ -D by omega) (show 0 ≤ g by omega)
        rw [Int.neg_mul] at this; omega
    have hD2 : D ≤ d := by
      have := Int.mul_le_mul_of_nonneg_left (show 1 ≤ g by omega) (show 0 ≤ D by omega)
      omega
    refine ⟨?_, ?_, hD, by omega, mb.1, by omega, by omega, mb.2⟩
    · have : lo * D * g ≤ N * g := by rw [Int.mul_assoc, k2, k1]; exact bd.1
      exact Int.le_of_mul_le_mul_right this (by omega)
    · have : N * g ≤ hi * D * g := by rw [Int.mul_assoc, k2, k1]; exact bd.2
      exact Int.le_of_mul_le_mul_right this (by omega)

set_option maxHeartbeats 1000000 in
theorem inside9_any (a b c d : Int) (w : World) :
    Calls Try.prog 31 #[ivV a b, ivV c d] w fun e w' => e = .returned (.bool (decide (c ≤ a) && decide (b ≤ d))) ∧ Below w.heap.size w w' := by
  go_enter Try.func31, Try.ntmps31
  go_wp2
  all_goals (go_returns; exact ⟨ret_bool (by simp_all <;> omega), by go_grown⟩)
set_option maxRecDepth 100000 in
set_option maxHeartbeats 4000000 in
theorem lawLevels_any (A : Option Addr) (c : Nat) (xs : List Int) (w : World) (h : BytesAt w A c xs) :
    Calls Try.prog 5 #[.slice A xs.length c] w fun e w' => e = .returned (.bool true) ∧ Below w.heap.size w w' := by
  have hn := Nat.le_trans h.1 h.2.1
  have H := Lib.hid h; clear h
  by_cases hbig : (4096 : Int) < xs.length
  · go_enter Try.func5, Try.ntmps5
    go_wp2_with (go_at_call 6; refine (big_any _ _ _ _ hn).mono ?_; rintro e w' ⟨rfl, rfl⟩)
    go_ret
    exact ⟨rfl, Below.refl _ _⟩
  · go_enter Try.func5, Try.ntmps5
    go_wp2_with (go_at_call 6; refine (big_any _ _ _ _ hn).mono ?_; rintro e w' ⟨rfl, rfl⟩)
    refine (drawLevelAt_any A c xs _ H.out).mono ?_
    rintro e w3 ⟨⟨A1, c1, A2, c2, ts, ls, t, rfl, rp, -⟩, hb3⟩
    have P3 := Lib.hid rp.at
    have B3 := Lib.hid hb3; clear rp hb3
    go_wp2_with fail
    (refine (implLevelAt_any _ _ _ _ _ _ _ _ (P3.out.below (B := w3.heap.size) (by first | exact Below.refl _ _ | (go_grown; done) | exact bdrewN (by go_grown) _) (Nat.le_refl _))).mono ?_; rintro e w4 ⟨rfl, hb4⟩; obtain ⟨B4, hz4, q4, s4, t4, x4, y4, z4⟩ := bkeep (w := w3) [w3.heap.size] (by first | (simp; done) | (simp; omega)) (by first | (go_grown; done) | exact bdrewN (by go_grown) _) hb4; (try simp at hz4); clear hb4)
    go_wp2_with fail
    (refine (specLevelAt_any _ _ _ _ _ _ _ _ (P3.out.below (B := w3.heap.size) (by first | exact Below.refl _ _ | (go_grown; done) | exact bdrewN (by go_grown) _) (Nat.le_refl _))).mono ?_; rintro e w5 ⟨rfl, hb5⟩; obtain ⟨B5, hz5, q5, s5, t5, x5, y5, z5⟩ := bkeep (w := w3) [w3.heap.size, w4.heap.size] (by first | (simp; done) | (simp; omega)) (by first | (go_grown; done) | exact bdrewN (by go_grown) _) hb5; (try simp at hz5); clear hb5)
    go_wp2_with fail
    (refine (implLevelSpan_any _ _ _ _ _ _ _ (P3.out.below (B := w3.heap.size) (by first | exact Below.refl _ _ | (go_grown; done) | exact bdrewN (by go_grown) _) (Nat.le_refl _))).mono ?_; rintro e w6 ⟨rfl, hb6⟩; obtain ⟨B6, hz6, q6, s6, t6, x6, y6, z6⟩ := bkeep (w := w3) [w3.heap.size, w4.heap.size, w5.heap.size] (by first | (simp; done) | (simp; omega)) (by first | (go_grown; done) | exact bdrewN (by go_grown) _) hb6; (try simp at hz6); clear hb6)
    go_wp2_with fail
    (refine (specLevelSpan_any _ _ _ _ _ _ _ (P3.out.below (B := w3.heap.size) (by first | exact Below.refl _ _ | (go_grown; done) | exact bdrewN (by go_grown) _) (Nat.le_refl _))).mono ?_; rintro e w7 ⟨rfl, hb7⟩; obtain ⟨B7, hz7, q7, s7, t7, x7, y7, z7⟩ := bkeep (w := w3) [w3.heap.size, w4.heap.size, w5.heap.size, w6.heap.size] (by first | (simp; done) | (simp; omega)) (by first | (go_grown; done) | exact bdrewN (by go_grown) _) hb7; (try simp at hz7); clear hb7)
    go_wp2_with fail
    (refine (implMeanLevel_any _ _ _ _ _ _ _ (P3.out.below (B := w3.heap.size) (by first | exact Below.refl _ _ | (go_grown; done) | exact bdrewN (by go_grown) _) (Nat.le_refl _))).mono ?_; rintro e w8 ⟨rfl, hb8⟩; obtain ⟨B8, hz8, q8, s8, t8, x8, y8, z8⟩ := bkeep (w := w3) [w3.heap.size, w4.heap.size, w5.heap.size, w6.heap.size, w7.heap.size] (by first | (simp; done) | (simp; omega)) (by first | (go_grown; done) | exact bdrewN (by go_grown) _) hb8; (try simp at hz8); clear hb8)
    go_wp2_with fail
    (refine (specMeanLevel_any _ _ _ _ _ _ _ (P3.out.below (B := w3.heap.size) (by first | exact Below.refl _ _ | (go_grown; done) | exact bdrewN (by go_grown) _) (Nat.le_refl _))).mono ?_; rintro e w9 ⟨rfl, hb9⟩; obtain ⟨B9, hz9, q9, s9, t9, x9, y9, z9⟩ := bkeep (w := w3) [w3.heap.size, w4.heap.size, w5.heap.size, w6.heap.size, w7.heap.size, w8.heap.size] (by first | (simp; done) | (simp; omega)) (by first | (go_grown; done) | exact bdrewN (by go_grown) _) hb9; (try simp at hz9); clear hb9)
    by_cases hm : mlC ts ls = 0
    · have MO := mean_ok hm
      obtain ⟨i1, i2, d1, d2, l1, l2, l3, l4⟩ := MO
      obtain ⟨b1, b2⟩ := mul_bd (a := spLo ts ls) (b := mlD ts ls) (A := 2000) (B := 1000000000) l1 l2 (by omega) d2
      obtain ⟨b3, b4⟩ := mul_bd (a := spHi ts ls) (b := mlD ts ls) (A := 2000) (B := 1000000000) l3 l4 (by omega) d2
      have W1 : IntKind.i64.wrap (spLo ts ls * mlD ts ls) = spLo ts ls * mlD ts ls := IntWalk.i64_in _ (by omega)
      have W2 : IntKind.i64.wrap (spHi ts ls * mlD ts ls) = spHi ts ls * mlD ts ls := IntWalk.i64_in _ (by omega)
      have j1 : ¬ mlN ts ls < spLo ts ls * mlD ts ls := by omega
      have j2 : ¬ spHi ts ls * mlD ts ls < mlN ts ls := by omega
      clear i1 i2 d1 d2 l1 l2 l3 l4 b1 b2 b3 b4
      by_cases hl : lvE ts ls t = 0
      · obtain ⟨hg, k1, k2, k3, k4⟩ := level_ok hl
        have hs := (sp_ok hg).1
        have dd1 : decide (spLo ts ls ≤ lvLo ts ls t) = true := decide_eq_true k1
        have dd2 : decide (lvHi ts ls t ≤ spHi ts ls) = true := decide_eq_true k2
        have bb := sp_bd hg
        have W3 : IntKind.i64.wrap (lvHi ts ls t - lvLo ts ls t) = lvHi ts ls t - lvLo ts ls t := IntWalk.i64_in _ (by omega)
        clear hg bb k1 k2 k4
        go_wp2_with fail
        (refine (inside9_any _ _ _ _ _).mono ?_; rintro e w10 ⟨rfl, hb10⟩; obtain ⟨B10, hz10, q10, s10, t10, x10, y10, z10⟩ := bkeep (w := w3) [w3.heap.size, w4.heap.size, w5.heap.size, w6.heap.size, w7.heap.size, w8.heap.size, w9.heap.size] (by first | (simp; done) | (simp; omega)) (by first | (go_grown; done) | exact bdrewN (by go_grown) _) hb10; (try simp at hz10); clear hb10)
        go_wp2_with fail
        go_ret
        exact ⟨rfl, B3.out.trans (Below.mono (show Below w3.heap.size w3 _ by first | exact B10 | (go_grown; done)) B3.out.size)⟩
      · go_wp2_with fail
        go_ret
        exact ⟨rfl, B3.out.trans (Below.mono (show Below w3.heap.size w3 _ by first | exact B9 | (go_grown; done)) B3.out.size)⟩
    · have hm2 : (mlC ts ls == 0) = false := beq_eq_false_iff_ne.2 hm
      by_cases hl : lvE ts ls t = 0
      · obtain ⟨hg, k1, k2, k3, k4⟩ := level_ok hl
        have hs := (sp_ok hg).1
        have dd1 : decide (spLo ts ls ≤ lvLo ts ls t) = true := decide_eq_true k1
        have dd2 : decide (lvHi ts ls t ≤ spHi ts ls) = true := decide_eq_true k2
        have bb := sp_bd hg
        have W3 : IntKind.i64.wrap (lvHi ts ls t - lvLo ts ls t) = lvHi ts ls t - lvLo ts ls t := IntWalk.i64_in _ (by omega)
        clear hg bb k1 k2 k4
        go_wp2_with fail
        (refine (inside9_any _ _ _ _ _).mono ?_; rintro e w10 ⟨rfl, hb10⟩; obtain ⟨B10, hz10, q10, s10, t10, x10, y10, z10⟩ := bkeep (w := w3) [w3.heap.size, w4.heap.size, w5.heap.size, w6.heap.size, w7.heap.size, w8.heap.size, w9.heap.size] (by first | (simp; done) | (simp; omega)) (by first | (go_grown; done) | exact bdrewN (by go_grown) _) hb10; (try simp at hz10); clear hb10)
        go_wp2_with fail
        go_ret
        exact ⟨rfl, B3.out.trans (Below.mono (show Below w3.heap.size w3 _ by first | exact B10 | (go_grown; done)) B3.out.size)⟩
      · go_wp2_with fail
        go_ret
        exact ⟨rfl, B3.out.trans (Below.mono (show Below w3.heap.size w3 _ by first | exact B9 | (go_grown; done)) B3.out.size)⟩
end Go.Proofs.Ytjabldjffpjkeaa
