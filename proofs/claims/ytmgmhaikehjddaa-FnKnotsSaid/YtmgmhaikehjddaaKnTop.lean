/- The law of FnKnots: no knot is slower than the axis, and a gradient times the thickness of the layer is the difference of the speeds. -/
import Derived.Test.YtmgmhaikehjddaaDrawTops
import Derived.Test.YtmgmhaikehjddaaAxis
import Derived.Test.YtmgmhaikehjddaaGrad
import Derived.Test.YtmgmhaikehjddaaBig
import Derived.Deep.QuietTactic
import Derived.BigQuiet
import Derived.Deep.RegionHeld3
namespace Go.Proofs.Ytmgmhaikehjddaa
set_option linter.unusedSimpArgs false
set_option linter.unusedVariables false
open Go.RowKit

theorem fast_ok {ds ss : List Int} {k : Int} (h : knotE ds ss k 0 = 0) : ∃ m : Nat, k = m ∧ m < ss.length ∧ ss.length ≤ 12 ∧ ∀ j : Nat, j ≤ m → spd ss (j : Int) ≤ fastI ds ss k := by
  obtain ⟨hv, k0, k1⟩ := knot_ok h
  obtain ⟨m, rfl⟩ := Int.eq_ofNat_of_zero_le k0
  obtain ⟨l0, l1, l2, l3⟩ := prof_len hv
  refine ⟨m, rfl, by omega, by omega, ?_⟩
  have e : fastI ds ss (m : Int) = mxTo ss (m + 1) := by unfold fastI; rw [if_pos h, Int.toNat_natCast]
  rw [e]
  have go : ∀ n, n ≤ ss.length → ∀ j : Nat, j < n → spd ss (j : Int) ≤ mxTo ss n := by
    intro n
    induction n with
    | zero => intro _ j h; exact absurd h (Nat.not_lt_zero _)
    | succ n ih =>
      intro hn j hj
      have hx := spd_get (xs := ss) (k := n) (by omega)
      rw [mxTo_succ hx]
      rcases Nat.lt_or_ge j n with g | g
      · have := ih (by omega) j g
        split <;> omega
      · obtain rfl : j = n := by omega
        split <;> omega
  exact fun j hj => go (m + 1) (by omega) j (by omega)
theorem axis_ok {ds ss : List Int} (h : axC ds ss = 0) : ∃ q : Nat, axK ds ss = q ∧ q < ss.length ∧ ss.length ≤ 12 ∧ ∀ j : Nat, j < ss.length → spd ss (q : Int) ≤ spd ss (j : Int) := by
  rcases Bool.eq_false_or_eq_true (profB ds ss) with hp | hp
  · obtain ⟨l0, l1, l2, l3⟩ := prof_len hp
    have := mi_le ss (ss.length - 1)
    exact ⟨_, (ax_ok hp).2, by omega, by omega, fun j hj => mi_min ss _ j (by omega)⟩
  · have := (ax_no hp).1; omega
theorem grad_ok {ds ss : List Int} {k : Int} (h : grC ds ss k = 0) : ∃ m : Nat, k = m ∧ GrOk ds ss m ∧ grN ds ss k * (spd ds ((m : Int) + 1) - spd ds m) = (spd ss ((m : Int) + 1) - spd ss m) * grD ds ss k ∧
    -1000000000 ≤ grN ds ss k ∧ grN ds ss k ≤ 1000000000 ∧ 0 ≤ grD ds ss k ∧ grD ds ss k ≤ 1000000000 := by
  by_cases h0 : knotE ds ss k 1 = 0
  · obtain ⟨m, rfl, g⟩ := grOk h0
    have f := ratF g.d1 g.s1 g.s2
    have eC : grC ds ss m = ratC (spd ss ((m : Int) + 1) - spd ss m) (spd ds ((m : Int) + 1) - spd ds m) 2 := by unfold grC; rw [if_pos h0]
    have eN : grN ds ss m = ratN (spd ss ((m : Int) + 1) - spd ss m) (spd ds ((m : Int) + 1) - spd ds m) := by unfold grN; rw [if_pos h0]
    have eD : grD ds ss m = ratD (spd ss ((m : Int) + 1) - spd ss m) (spd ds ((m : Int) + 1) - spd ds m) := by unfold grD; rw [if_pos h0]
    rw [eN, eD]
    rw [eC] at h
    have d1 := g.d1; have d2 := g.d2
    obtain ⟨a, ha⟩ : ∃ a, spd ss ((m : Int) + 1) - spd ss m = a := ⟨_, rfl⟩
    obtain ⟨b, hb⟩ : ∃ b, spd ds ((m : Int) + 1) - spd ds m = b := ⟨_, rfl⟩
    rw [ha, hb] at f h
    rw [ha, hb]
    rw [hb] at d1 d2
    rcases Bool.eq_false_or_eq_true (ratOk a b) with ho | ho
    · have q1 : ratN a b = a / gcI a b := by unfold ratN; rw [if_pos ho]; rfl
      have q2 : ratD a b = b / gcI a b := by unfold ratD; rw [if_pos ho]; rfl
      have bd := inB_bd (show inB (a / gcI a b) (-1000000000) 1000000000 = true from ho)
      rw [q1, q2]
      have c1 := Int.ediv_mul_cancel (show gcI a b ∣ a from Int.gcd_dvd_left a b)
      have c2 := Int.ediv_mul_cancel (show gcI a b ∣ b from Int.gcd_dvd_right a b)
      have n1 := f.nb1; have n2 := f.nb2
      refine ⟨m, rfl, g, ?_, bd.1, bd.2, by omega, by omega⟩
      rw [ha, hb]
      generalize a / gcI a b = x at *
      generalize b / gcI a b = y at *
      generalize gcI a b = g' at *
      subst c1 c2
      grind
    · unfold ratC at h; rw [ho] at h; simp at h
  · unfold grC at h; rw [if_neg h0] at h; exact absurd h h0
theorem likeRatio9_any (a b n d : Int) (w : World) (h : a * d = n * b) (a0 : -1000000000 ≤ a) (a1 : a ≤ 1000000000) (d0 : 0 ≤ d) (d1 : d ≤ 1000000000) :
    Calls Try.prog 29 #[ratV a b, .int .i64 n, .int .i64 d] w fun e w' => e = .returned (.bool true) ∧ Below w.heap.size w w' := by
  have m := Int.mul_le_mul_of_nonneg_right a0 d0
  have m' := Int.mul_le_mul_of_nonneg_right a1 d0
  have e1 : IntKind.i64.wrap (a * d) = a * d := IntWalk.i64_in _ (by omega)
  have e2 : IntKind.i64.wrap (n * b) = a * d := by rw [← h]; exact e1
  have e3 : wrap64 (a * d) = a * d := IntWalk.wrap64_in _ ⟨by omega, by omega⟩
  have e4 : wrap64 (n * b) = a * d := by rw [← h]; exact e3
  obtain ⟨x, hx⟩ : ∃ x, a * d = x := ⟨_, rfl⟩
  have E1 := e1.trans hx; have E2 := e2.trans hx; have E3 := e3.trans hx; have E4 := e4.trans hx
  clear h m m' hx e1 e2 e3 e4
  go_enter Try.func29, Try.ntmps29
  go_wp2
  go_ret
  exact ⟨ret_bool (by simp [*]), by go_grown⟩
set_option maxRecDepth 100000 in
set_option maxHeartbeats 16000000 in
theorem lawKnots_any (A : Option Addr) (c : Nat) (xs : List Int) (w : World) (h : BytesAt w A c xs) :
    Calls Try.prog 4 #[.slice A xs.length c] w fun e w' => e = .returned (.bool true) ∧ Below w.heap.size w w' := by
  have hn := Nat.le_trans h.1 h.2.1
  have H := Lib.hid h; clear h
  by_cases hbig : (4096 : Int) < xs.length
  · go_enter Try.func4, Try.ntmps4
    go_wp2_with (go_at_call 14; refine (big_any _ _ _ _ hn).mono ?_; rintro e w' ⟨rfl, rfl⟩)
    go_ret
    exact ⟨rfl, Below.refl _ _⟩
  · go_enter Try.func4, Try.ntmps4
    go_wp2_with (go_at_call 14; refine (big_any _ _ _ _ hn).mono ?_; rintro e w' ⟨rfl, rfl⟩)
    refine (drawAxisOf_any A c xs _ H.out).mono ?_
    rintro e w3 ⟨⟨A1, c1, A2, c2, ts, ls, rfl, rp⟩, hb3⟩
    have P0 := Lib.hid rp.at; have P := Lib.hid rp.at; clear rp
    have HX := Lib.hid (H.out.below hb3 (Nat.le_refl _))
    have B3 := Lib.hid hb3; clear hb3
    go_wp2_with fail
    refine (implAxisOf_any _ _ _ _ _ _ _ (P.out.below (B := w3.heap.size) (by first | exact Below.refl _ _ | (go_grown; done) | exact bdrewN (by go_grown) _) (Nat.le_refl _))).mono ?_
    rintro e w4 ⟨rfl, hb4⟩
    have P := Lib.hid (((P.out).below (B := w3.heap.size) (by first | exact Below.refl _ _ | (go_grown; done) | exact bdrewN (by go_grown) _) (Nat.le_refl _)).below hb4 (Nat.le_refl _))
    have HX := Lib.hid (((HX.out).below (B := w3.heap.size) (by first | exact Below.refl _ _ | (go_grown; done) | exact bdrewN (by go_grown) _) (Nat.le_refl _)).below hb4 (Nat.le_refl _))
    obtain ⟨B4, hz4, q4, s4, t4, x4, y4, z4⟩ := bkeep (w := w3) [w3.heap.size] (by first | (simp; done) | (simp; omega)) (by first | (go_grown; done) | exact bdrewN (by go_grown) _) hb4; (try simp at hz4); clear hb4
    go_wp2_with fail
    refine (specAxisOf_any _ _ _ _ _ _ _ (P.out.below (B := w4.heap.size) (by first | exact Below.refl _ _ | (go_grown; done) | exact bdrewN (by go_grown) _) (Nat.le_refl _))).mono ?_
    rintro e w5 ⟨rfl, hb5⟩
    have P := Lib.hid (((P.out).below (B := w4.heap.size) (by first | exact Below.refl _ _ | (go_grown; done) | exact bdrewN (by go_grown) _) (Nat.le_refl _)).below hb5 (Nat.le_refl _))
    have HX := Lib.hid (((HX.out).below (B := w4.heap.size) (by first | exact Below.refl _ _ | (go_grown; done) | exact bdrewN (by go_grown) _) (Nat.le_refl _)).below hb5 (Nat.le_refl _))
    obtain ⟨B5, hz5, q5, s5, t5, x5, y5, z5⟩ := bkeep (w := w3) [w3.heap.size] (by first | (simp; done) | (simp; omega)) (by first | (go_grown; done) | exact bdrewN (by go_grown) _) hb5; (try simp at hz5); clear hb5
    go_wp2_with fail
    refine (drawGradientOf_any _ _ _ _ (HX.out.below (B := w5.heap.size) (by first | exact Below.refl _ _ | (go_grown; done) | exact bdrewN (by go_grown) _) (Nat.le_refl _))).mono ?_
    rintro e w6 ⟨⟨A3, c3, A4, c4, us, ms, kq, rfl, rq⟩, hb6⟩
    have P := Lib.hid (((P.out).below (B := w5.heap.size) (by first | exact Below.refl _ _ | (go_grown; done) | exact bdrewN (by go_grown) _) (Nat.le_refl _)).below hb6 (Nat.le_refl _))
    have HX := Lib.hid (((HX.out).below (B := w5.heap.size) (by first | exact Below.refl _ _ | (go_grown; done) | exact bdrewN (by go_grown) _) (Nat.le_refl _)).below hb6 (Nat.le_refl _))
    have Q := Lib.hid (rq.at)
    obtain ⟨B6, hz6, q6, s6, t6, x6, y6, z6⟩ := bkeep (w := w3) [w3.heap.size] (by first | (simp; done) | (simp; omega)) (by first | (go_grown; done) | exact bdrewN (by go_grown) _) hb6; (try simp at hz6); clear hb6
    clear rq
    go_wp2_with fail
    refine (implGradientOf_any _ _ _ _ _ _ _ _ (Q.out.below (B := w6.heap.size) (by first | exact Below.refl _ _ | (go_grown; done) | exact bdrewN (by go_grown) _) (Nat.le_refl _))).mono ?_
    rintro e w7 ⟨rfl, hb7⟩
    have P := Lib.hid (((P.out).below (B := w6.heap.size) (by first | exact Below.refl _ _ | (go_grown; done) | exact bdrewN (by go_grown) _) (Nat.le_refl _)).below hb7 (Nat.le_refl _))
    have HX := Lib.hid (((HX.out).below (B := w6.heap.size) (by first | exact Below.refl _ _ | (go_grown; done) | exact bdrewN (by go_grown) _) (Nat.le_refl _)).below hb7 (Nat.le_refl _))
    have Q := Lib.hid (((Q.out).below (B := w6.heap.size) (by first | exact Below.refl _ _ | (go_grown; done) | exact bdrewN (by go_grown) _) (Nat.le_refl _)).below hb7 (Nat.le_refl _))
    obtain ⟨B7, hz7, q7, s7, t7, x7, y7, z7⟩ := bkeep (w := w3) [w3.heap.size, w6.heap.size] (by first | (simp; done) | (simp; omega)) (by first | (go_grown; done) | exact bdrewN (by go_grown) _) hb7; (try simp at hz7); clear hb7
    go_wp2_with fail
    refine (specGradientOf_any _ _ _ _ _ _ _ _ (Q.out.below (B := w7.heap.size) (by first | exact Below.refl _ _ | (go_grown; done) | exact bdrewN (by go_grown) _) (Nat.le_refl _))).mono ?_
    rintro e w8 ⟨rfl, hb8⟩
    have P := Lib.hid (((P.out).below (B := w7.heap.size) (by first | exact Below.refl _ _ | (go_grown; done) | exact bdrewN (by go_grown) _) (Nat.le_refl _)).below hb8 (Nat.le_refl _))
    have HX := Lib.hid (((HX.out).below (B := w7.heap.size) (by first | exact Below.refl _ _ | (go_grown; done) | exact bdrewN (by go_grown) _) (Nat.le_refl _)).below hb8 (Nat.le_refl _))
    have Q := Lib.hid (((Q.out).below (B := w7.heap.size) (by first | exact Below.refl _ _ | (go_grown; done) | exact bdrewN (by go_grown) _) (Nat.le_refl _)).below hb8 (Nat.le_refl _))
    obtain ⟨B8, hz8, q8, s8, t8, x8, y8, z8⟩ := bkeep (w := w3) [w3.heap.size, w6.heap.size, w7.heap.size] (by first | (simp; done) | (simp; omega)) (by first | (go_grown; done) | exact bdrewN (by go_grown) _) hb8; (try simp at hz8); clear hb8
    go_wp2_with fail
    refine (drawFastestTo_any _ _ _ _ (HX.out.below (B := w8.heap.size) (by first | exact Below.refl _ _ | (go_grown; done) | exact bdrewN (by go_grown) _) (Nat.le_refl _))).mono ?_
    rintro e w9 ⟨⟨A5, c5, A6, c6, vs, ns, kr, rfl, rr⟩, hb9⟩
    have P := Lib.hid (((P.out).below (B := w8.heap.size) (by first | exact Below.refl _ _ | (go_grown; done) | exact bdrewN (by go_grown) _) (Nat.le_refl _)).below hb9 (Nat.le_refl _))
    have HX := Lib.hid (((HX.out).below (B := w8.heap.size) (by first | exact Below.refl _ _ | (go_grown; done) | exact bdrewN (by go_grown) _) (Nat.le_refl _)).below hb9 (Nat.le_refl _))
    have Q := Lib.hid (((Q.out).below (B := w8.heap.size) (by first | exact Below.refl _ _ | (go_grown; done) | exact bdrewN (by go_grown) _) (Nat.le_refl _)).below hb9 (Nat.le_refl _))
    have R := Lib.hid (rr.at)
    obtain ⟨B9, hz9, q9, s9, t9, x9, y9, z9⟩ := bkeep (w := w3) [w3.heap.size, w6.heap.size, w7.heap.size, w8.heap.size] (by first | (simp; done) | (simp; omega)) (by first | (go_grown; done) | exact bdrewN (by go_grown) _) hb9; (try simp at hz9); clear hb9
    clear rr
    go_wp2_with fail
    refine (implFastestTo_any _ _ _ _ _ _ _ _ (R.out.below (B := w9.heap.size) (by first | exact Below.refl _ _ | (go_grown; done) | exact bdrewN (by go_grown) _) (Nat.le_refl _))).mono ?_
    rintro e w10 ⟨rfl, hb10⟩
    have P := Lib.hid (((P.out).below (B := w9.heap.size) (by first | exact Below.refl _ _ | (go_grown; done) | exact bdrewN (by go_grown) _) (Nat.le_refl _)).below hb10 (Nat.le_refl _))
    have Q := Lib.hid (((Q.out).below (B := w9.heap.size) (by first | exact Below.refl _ _ | (go_grown; done) | exact bdrewN (by go_grown) _) (Nat.le_refl _)).below hb10 (Nat.le_refl _))
    have R := Lib.hid (((R.out).below (B := w9.heap.size) (by first | exact Below.refl _ _ | (go_grown; done) | exact bdrewN (by go_grown) _) (Nat.le_refl _)).below hb10 (Nat.le_refl _))
    obtain ⟨B10, hz10, q10, s10, t10, x10, y10, z10⟩ := bkeep (w := w3) [w3.heap.size, w6.heap.size, w7.heap.size, w8.heap.size, w9.heap.size] (by first | (simp; done) | (simp; omega)) (by first | (go_grown; done) | exact bdrewN (by go_grown) _) hb10; (try simp at hz10); clear hb10
    go_wp2_with fail
    refine (specFastestTo_any _ _ _ _ _ _ _ _ (R.out.below (B := w10.heap.size) (by first | exact Below.refl _ _ | (go_grown; done) | exact bdrewN (by go_grown) _) (Nat.le_refl _))).mono ?_
    rintro e w11 ⟨rfl, hb11⟩
    have P := Lib.hid (((P.out).below (B := w10.heap.size) (by first | exact Below.refl _ _ | (go_grown; done) | exact bdrewN (by go_grown) _) (Nat.le_refl _)).below hb11 (Nat.le_refl _))
    have Q := Lib.hid (((Q.out).below (B := w10.heap.size) (by first | exact Below.refl _ _ | (go_grown; done) | exact bdrewN (by go_grown) _) (Nat.le_refl _)).below hb11 (Nat.le_refl _))
    have R := Lib.hid (((R.out).below (B := w10.heap.size) (by first | exact Below.refl _ _ | (go_grown; done) | exact bdrewN (by go_grown) _) (Nat.le_refl _)).below hb11 (Nat.le_refl _))
    obtain ⟨B11, hz11, q11, s11, t11, x11, y11, z11⟩ := bkeep (w := w3) [w3.heap.size, w6.heap.size, w7.heap.size, w8.heap.size, w9.heap.size] (by first | (simp; done) | (simp; omega)) (by first | (go_grown; done) | exact bdrewN (by go_grown) _) hb11; (try simp at hz11); clear hb11
    have FF := Lib.hid (fast_ok (ds := vs) (ss := ns) (k := kr))
    have AA := Lib.hid (axis_ok (ds := ts) (ss := ls))
    have GG := Lib.hid (grad_ok (ds := us) (ss := ms) (k := kq))
    generalize knotE vs ns kr 0 = e3 at *
    generalize fastI vs ns kr = fq at *
    generalize axC ts ls = ea at *
    generalize axK ts ls = ka at *
    generalize grN us ms kq = ga at *
    generalize grD us ms kq = gb at *
    generalize grC us ms kq = gc at *
    go_wp2_with fail
    refine genS (S := fun w' => Below w3.heap.size w3 w' ∧ w3.heap.size < w'.heap.size ∧ w6.heap.size < w'.heap.size ∧ w7.heap.size < w'.heap.size ∧ w8.heap.size < w'.heap.size ∧ w9.heap.size < w'.heap.size ∧ w'.cell? ⟨w3.heap.size, 0, none⟩ = some (.slice A1 (List.length ts) c1) ∧ w'.cell? ⟨w3.heap.size, 1, none⟩ = some (.slice A2 (List.length ls) c2) ∧ w'.cell? ⟨w6.heap.size, 0, none⟩ = some (.slice A3 (List.length us) c3) ∧ w'.cell? ⟨w6.heap.size, 1, none⟩ = some (.slice A4 (List.length ms) c4) ∧ w'.cell? ⟨w7.heap.size, 0, none⟩ = some (.int .i64 ga) ∧ w'.cell? ⟨w7.heap.size, 1, none⟩ = some (.int .i64 gb) ∧ w'.cell? ⟨w8.heap.size, 0, none⟩ = some (.int .i64 ga) ∧ w'.cell? ⟨w8.heap.size, 1, none⟩ = some (.int .i64 gb) ∧ w'.cell? ⟨w9.heap.size, 0, none⟩ = some (.slice A5 (List.length vs) c5) ∧ w'.cell? ⟨w9.heap.size, 1, none⟩ = some (.slice A6 (List.length ns) c6) ∧ ProfAt w' A1 c1 A2 c2 ts ls ∧ ProfAt w' A3 c3 A4 c4 us ms ∧ ProfAt w' A5 c5 A6 c6 vs ns) ⟨(by first | exact B11 | exact bdrewN B11 _ | exact bdrewN (bdrewN B11 _) _ | (go_grown; done) | (go_grown <;> exact bdrewN B11 _)), by first | omega | (simp; done) | (simp; omega), by first | omega | (simp; done) | (simp; omega), by first | omega | (simp; done) | (simp; omega), by first | omega | (simp; done) | (simp; omega), by first | omega | (simp; done) | (simp; omega), by simp [*, go_sem], by simp [*, go_sem], by simp [*, go_sem], by simp [*, go_sem], by simp [*, go_sem], by simp [*, go_sem], by simp [*, go_sem], by simp [*, go_sem], by simp [*, go_sem], by simp [*, go_sem], (P.out).below (B := w11.heap.size) (by first | exact Below.refl _ _ | exact bdrewN (Below.refl _ _) _ | exact bdrewN (bdrewN (Below.refl _ _) _) _ | (go_grown; done) | exact bdrewN (by go_grown) _) (Nat.le_refl _), (Q.out).below (B := w11.heap.size) (by first | exact Below.refl _ _ | exact bdrewN (Below.refl _ _) _ | exact bdrewN (bdrewN (Below.refl _ _) _) _ | (go_grown; done) | exact bdrewN (by go_grown) _) (Nat.le_refl _), (R.out).below (B := w11.heap.size) (by first | exact Below.refl _ _ | exact bdrewN (Below.refl _ _) _ | exact bdrewN (bdrewN (Below.refl _ _) _) _ | (go_grown; done) | exact bdrewN (by go_grown) _) (Nat.le_refl _)⟩ ?_
    clear q4 s4 t4 x4 y4 z4 hz4 q5 s5 t5 x5 y5 z5 hz5 q6 s6 t6 x6 y6 z6 hz6 q7 s7 t7 x7 y7 z7 hz7 q8 s8 t8 x8 y8 z8 hz8 q9 s9 t9 x9 y9 z9 hz9 q10 s10 t10 x10 y10 z10 hz10 q11 s11 t11 x11 y11 z11 hz11
    rintro w12 ⟨B12, lt12_0, lt12_1, lt12_2, lt12_3, lt12_4, c12_0, c12_1, c12_2, c12_3, c12_4, c12_5, c12_6, c12_7, c12_8, c12_9, rr_P, rr_Q, rr_R⟩
    have P := Lib.hid rr_P; clear rr_P
    have Q := Lib.hid rr_Q; clear rr_Q
    have R := Lib.hid rr_R; clear rr_R
    by_cases h1 : gc = 0
    · obtain ⟨m, hkq, g, hx, x0, x1, x2, x3⟩ := GG.out h1
      subst hkq
      subst h1
      have gk1 := g.k1; have gl1 := g.l1; have gl3 := g.l3; have gl2 := g.l2; have gd1 := g.d1; have gd2 := g.d2; have ga0 := g.a0; have ga1 := g.a1; have gb0 := g.b0; have gb1 := g.b1; have gb2 := g.b2; have gb3 := g.b3; clear g
      obtain ⟨b3, o3, rfl, hb3, q3⟩ := Q.out.1.spd (by omega)
      obtain ⟨b4, o4, rfl, hb4, q4⟩ := Q.out.2.spd (by omega)
      have kk : ((m + 1 : Nat) : Int) = (m : Int) + 1 := by omega
      have d0 := q3 m (by omega); have d1 := q3 (m + 1) (by omega); have s0 := q4 m (by omega); have s1 := q4 (m + 1) (by omega)
      rw [kk] at d1 s1
      generalize spd us m = y0 at *
      generalize spd us ((m : Int) + 1) = y1 at *
      generalize spd ms m = x0_ at *
      generalize spd ms ((m : Int) + 1) = x1_ at *
      have mm0 : (0 : Int) ≤ m := by omega
      have mm1 : (m : Int) < us.length := by omega
      have mm2 : (0 : Int) ≤ (m : Int) + 1 := by omega
      have mm3 : (m : Int) + 1 < us.length := by omega
      have mm5 : (m : Int) < ms.length := by omega
      have mm6 : (m : Int) + 1 < ms.length := by omega
      have mm4 : ((m : Int) + 1).toNat = m + 1 := by omega
      have W0 : IntKind.i64.wrap ((m : Int) + 1) = (m : Int) + 1 := IntWalk.i64_in _ (by omega)
      have W1 : IntKind.i64.wrap (x1_ - x0_) = x1_ - x0_ := IntWalk.i64_in _ (by omega)
      have W2 : IntKind.i64.wrap (y1 - y0) = y1 - y0 := IntWalk.i64_in _ (by omega)
      have LR := Lib.hid (fun w : World => likeRatio9_any ga gb (x1_ - x0_) (y1 - y0) w hx x0 x1 (by omega) (by omega))
      clear q3 q4 kk hx
      go_region_held3 (fun w' => w'.cell? ⟨w7.heap.size, 0, none⟩ = some (.int .i64 ga) ∧ w'.cell? ⟨w7.heap.size, 1, none⟩ = some (.int .i64 gb) ∧ w'.cell? ⟨w6.heap.size, 0, none⟩ = some (.slice (some ⟨b3, o3, none⟩) (List.length us) c3) ∧ w'.cell? ⟨w6.heap.size, 1, none⟩ = some (.slice (some ⟨b4, o4, none⟩) (List.length ms) c4) ∧ w'.cell? ⟨b3, o3 + m, none⟩ = some (.int .i64 y0) ∧ w'.cell? ⟨b3, o3 + (m + 1), none⟩ = some (.int .i64 y1) ∧ w'.cell? ⟨b4, o4 + m, none⟩ = some (.int .i64 x0_) ∧ w'.cell? ⟨b4, o4 + (m + 1), none⟩ = some (.int .i64 x1_)) (first | (go_keep; done) | (simp [*, go_sem]; done))
        (first
          | (go_at_call 29; refine (LR.out _).mono ?_; rintro e w13 ⟨rfl, hb13⟩; obtain ⟨B13, hz13, q13, s13, t13, x13, y13, z13⟩ := bkeep (w := w12) [w3.heap.size, w6.heap.size, w7.heap.size, w9.heap.size] (by first | (simp; done) | (simp; omega)) (by first | (go_grown; done) | exact bdrewN (by go_grown) _) hb13; (try simp at hz13); clear hb13))
      clear W0 W1 W2
      have P := Lib.hid (P.out.below B13 (Nat.le_refl _)); have R := Lib.hid (R.out.below B13 (Nat.le_refl _))
      have B13 := B12.trans (B13.mono B12.size)
      go_wp2
      refine genS (S := fun w' => Below w3.heap.size w3 w' ∧ w3.heap.size < w'.heap.size ∧ w9.heap.size < w'.heap.size ∧ w'.cell? ⟨w3.heap.size, 0, none⟩ = some (.slice A1 (List.length ts) c1) ∧ w'.cell? ⟨w3.heap.size, 1, none⟩ = some (.slice A2 (List.length ls) c2) ∧ w'.cell? ⟨w9.heap.size, 0, none⟩ = some (.slice A5 (List.length vs) c5) ∧ w'.cell? ⟨w9.heap.size, 1, none⟩ = some (.slice A6 (List.length ns) c6) ∧ ProfAt w' A1 c1 A2 c2 ts ls ∧ ProfAt w' A5 c5 A6 c6 vs ns) ⟨(by first | exact B13 | exact bdrewN B13 _ | exact bdrewN (bdrewN B13 _) _ | (go_grown; done) | (go_grown <;> exact bdrewN B13 _)), by first | omega | (simp; done) | (simp; omega), by first | omega | (simp; done) | (simp; omega), by simp [*, go_sem], by simp [*, go_sem], by simp [*, go_sem], by simp [*, go_sem], (P.out).below (B := w13.heap.size) (by first | exact Below.refl _ _ | exact bdrewN (Below.refl _ _) _ | exact bdrewN (bdrewN (Below.refl _ _) _) _ | (go_grown; done) | exact bdrewN (by go_grown) _) (Nat.le_refl _), (R.out).below (B := w13.heap.size) (by first | exact Below.refl _ _ | exact bdrewN (Below.refl _ _) _ | exact bdrewN (bdrewN (Below.refl _ _) _) _ | (go_grown; done) | exact bdrewN (by go_grown) _) (Nat.le_refl _)⟩ ?_
      clear q13 s13 t13 x13 y13 z13 hz13 d0 d1 s0 s1
      rintro w14 ⟨B14, lt14_0, lt14_1, c14_0, c14_1, c14_2, c14_3, rr_P, rr_R⟩
      have P := Lib.hid rr_P; clear rr_P
      have R := Lib.hid rr_R; clear rr_R
      by_cases h3 : e3 = 0
      · obtain ⟨m, hkr, hm, hl3, hmax⟩ := FF.out h3
        subst hkr
        subst h3
        have HM3 := Lib.hid hmax; clear hmax
        obtain ⟨b6, o6, rfl, hb6, q6⟩ := R.out.2.spd (by omega)
        have Q6 := Lib.hid q6; clear q6
        go_loop [20] (fun i => ∃ k : Nat, k ≤ m + 1 ∧ i = .int .i64 k) (fun i => m + 1 - (intOf i).toNat)
        case atStart => exact ⟨0, by omega, rfl⟩
        case round =>
          obtain ⟨k, hk, rfl⟩ := hrel
          by_cases hkm : k ≤ m
          · have d6 := Q6.out k (by omega)
            have hc := HM3.out k hkm
            have g1 : (k : Int) < ns.length := by omega
            have g2 : (0 : Int) ≤ k := by omega
            have g4 : (k : Int) ≤ (m : Int) := by omega
            generalize spd ns (k : Int) = X at d6 hc
            have hc2 : ¬ fq < X := by omega
            clear hc
            go_wp2
            go_round
            case rel => exact ⟨k + 1, by omega, by go_num⟩
            case measure => simp [intOf]; omega
          · have g4 : ¬ (k : Int) ≤ (m : Int) := by omega
            go_wp2
            by_cases ha : ea = 0
            · obtain ⟨q, hq, hq2, hl, hmin⟩ := AA.out ha
              have HM := Lib.hid hmin; clear hmin
              subst hq
              subst ha
              obtain ⟨b2, o2, rfl, hb2, q2⟩ := P0.out.2.spd (by omega)
              have Q2 := Lib.hid q2; clear q2
              go_loopw [21] (fun i wr => ∃ k : Nat, k ≤ ls.length ∧ i = .int .i64 k ∧ Below w3.heap.size w3 wr ∧ w3.heap.size < wr.heap.size ∧ wr.cell? ⟨w3.heap.size, 1, none⟩ = some (.slice (some ⟨b2, o2, none⟩) (List.length ls) c2)) (fun i _ => ls.length - (intOf i).toNat)
              case atStart => exact ⟨0, by omega, rfl, by first | exact B14 | (go_grown; done) | exact bdrewN B14 _ | exact bdrewN (by go_grown) _ | (go_grown <;> exact bdrewN B14 _), by first | omega | (simp; done) | (simp; omega), by simp [*, go_sem]⟩
              case round =>
                obtain ⟨k, hk, rfl, Br, lr, cr⟩ := hrel
                have HB := Lib.hid Br
                by_cases hlt : k < ls.length
                · have d0 := (bold Br b2 (o2 + k) hb2).trans (Q2.out k hlt)
                  have d1 := (bold Br b2 (o2 + q) hb2).trans (Q2.out q hq2)
                  have hc := HM.out k hlt
                  have g0 : (q : Int) < ls.length := by omega
                  have g1 : (k : Int) < ls.length := by omega
                  have g2 : (0 : Int) ≤ k := by omega
                  have g3 : (0 : Int) ≤ q := by omega
                  generalize spd ls (k : Int) = X at d0 hc
                  generalize spd ls (q : Int) = Y at d1 hc
                  have hc2 : ¬ X < Y := by omega
                  clear Br hc
                  go_wp2_with fail
                  go_quiet (fail)
                  go_wp2
                  go_roundw
                  case rel => exact ⟨k + 1, by omega, by go_num, (by first | exact HB.out | (have hb_ := HB.out; go_grown; done) | (have hb_ := HB.out; exact bdrewN (by go_grown) _)), by first | omega | (simp; done) | (simp; omega), by simp [*, go_sem]⟩
                  case measure => simp [intOf]; omega
                · obtain rfl : k = ls.length := by omega
                  go_wp2
                  go_ret
                  exact ⟨rfl, B3.out.trans (HB.out.mono B3.out.size)⟩
            · have ha2 : (ea == 0) = false := beq_eq_false_iff_ne.2 ha
              go_loop [21] (fun i => i = .int .i64 0) (fun _ => 0)
              case atStart => exact rfl
              case round =>
                obtain rfl := hrel
                go_wp2
                go_ret
                exact ⟨rfl, B3.out.trans (Below.mono (show Below w3.heap.size w3 _ by first | exact B14 | (go_grown; done) | exact bdrewN B14 _ | exact bdrewN (by go_grown) _ | (go_grown <;> exact bdrewN B14 _)) B3.out.size)⟩
      · have h32 : (e3 == 0) = false := beq_eq_false_iff_ne.2 h3
        go_loop [20] (fun i => i = .int .i64 0) (fun _ => 0)
        case atStart => exact rfl
        case round =>
          obtain rfl := hrel
          go_wp2
          by_cases ha : ea = 0
          · obtain ⟨q, hq, hq2, hl, hmin⟩ := AA.out ha
            have HM := Lib.hid hmin; clear hmin
            subst hq
            subst ha
            obtain ⟨b2, o2, rfl, hb2, q2⟩ := P0.out.2.spd (by omega)
            have Q2 := Lib.hid q2; clear q2
            go_loopw [21] (fun i wr => ∃ k : Nat, k ≤ ls.length ∧ i = .int .i64 k ∧ Below w3.heap.size w3 wr ∧ w3.heap.size < wr.heap.size ∧ wr.cell? ⟨w3.heap.size, 1, none⟩ = some (.slice (some ⟨b2, o2, none⟩) (List.length ls) c2)) (fun i _ => ls.length - (intOf i).toNat)
            case atStart => exact ⟨0, by omega, rfl, by first | exact B14 | (go_grown; done) | exact bdrewN B14 _ | exact bdrewN (by go_grown) _ | (go_grown <;> exact bdrewN B14 _), by first | omega | (simp; done) | (simp; omega), by simp [*, go_sem]⟩
            case round =>
              obtain ⟨k, hk, rfl, Br, lr, cr⟩ := hrel
              have HB := Lib.hid Br
              by_cases hlt : k < ls.length
              · have d0 := (bold Br b2 (o2 + k) hb2).trans (Q2.out k hlt)
                have d1 := (bold Br b2 (o2 + q) hb2).trans (Q2.out q hq2)
                have hc := HM.out k hlt
                have g0 : (q : Int) < ls.length := by omega
                have g1 : (k : Int) < ls.length := by omega
                have g2 : (0 : Int) ≤ k := by omega
                have g3 : (0 : Int) ≤ q := by omega
                generalize spd ls (k : Int) = X at d0 hc
                generalize spd ls (q : Int) = Y at d1 hc
                have hc2 : ¬ X < Y := by omega
                clear Br hc
                go_wp2_with fail
                go_quiet (fail)
                go_wp2
                go_roundw
                case rel => exact ⟨k + 1, by omega, by go_num, (by first | exact HB.out | (have hb_ := HB.out; go_grown; done) | (have hb_ := HB.out; exact bdrewN (by go_grown) _)), by first | omega | (simp; done) | (simp; omega), by simp [*, go_sem]⟩
                case measure => simp [intOf]; omega
              · obtain rfl : k = ls.length := by omega
                go_wp2
                go_ret
                exact ⟨rfl, B3.out.trans (HB.out.mono B3.out.size)⟩
          · have ha2 : (ea == 0) = false := beq_eq_false_iff_ne.2 ha
            go_loop [21] (fun i => i = .int .i64 0) (fun _ => 0)
            case atStart => exact rfl
            case round =>
              obtain rfl := hrel
              go_wp2
              go_ret
              exact ⟨rfl, B3.out.trans (Below.mono (show Below w3.heap.size w3 _ by first | exact B14 | (go_grown; done) | exact bdrewN B14 _ | exact bdrewN (by go_grown) _ | (go_grown <;> exact bdrewN B14 _)) B3.out.size)⟩
    · have h12 : (gc == 0) = false := beq_eq_false_iff_ne.2 h1
      go_quiet (fail)
      go_wp2
      refine genS (S := fun w' => Below w3.heap.size w3 w' ∧ w3.heap.size < w'.heap.size ∧ w9.heap.size < w'.heap.size ∧ w'.cell? ⟨w3.heap.size, 0, none⟩ = some (.slice A1 (List.length ts) c1) ∧ w'.cell? ⟨w3.heap.size, 1, none⟩ = some (.slice A2 (List.length ls) c2) ∧ w'.cell? ⟨w9.heap.size, 0, none⟩ = some (.slice A5 (List.length vs) c5) ∧ w'.cell? ⟨w9.heap.size, 1, none⟩ = some (.slice A6 (List.length ns) c6) ∧ ProfAt w' A1 c1 A2 c2 ts ls ∧ ProfAt w' A5 c5 A6 c6 vs ns) ⟨(by first | exact B12 | exact bdrewN B12 _ | exact bdrewN (bdrewN B12 _) _ | (go_grown; done) | (go_grown <;> exact bdrewN B12 _)), by first | omega | (simp; done) | (simp; omega), by first | omega | (simp; done) | (simp; omega), by simp [*, go_sem], by simp [*, go_sem], by simp [*, go_sem], by simp [*, go_sem], (P.out).below (B := w12.heap.size) (by first | exact Below.refl _ _ | exact bdrewN (Below.refl _ _) _ | exact bdrewN (bdrewN (Below.refl _ _) _) _ | (go_grown; done) | exact bdrewN (by go_grown) _) (Nat.le_refl _), (R.out).below (B := w12.heap.size) (by first | exact Below.refl _ _ | exact bdrewN (Below.refl _ _) _ | exact bdrewN (bdrewN (Below.refl _ _) _) _ | (go_grown; done) | exact bdrewN (by go_grown) _) (Nat.le_refl _)⟩ ?_
      rintro w14 ⟨B14, lt14_0, lt14_1, c14_0, c14_1, c14_2, c14_3, rr_P, rr_R⟩
      have P := Lib.hid rr_P; clear rr_P
      have R := Lib.hid rr_R; clear rr_R
      by_cases h3 : e3 = 0
      · obtain ⟨m, hkr, hm, hl3, hmax⟩ := FF.out h3
        subst hkr
        subst h3
        have HM3 := Lib.hid hmax; clear hmax
        obtain ⟨b6, o6, rfl, hb6, q6⟩ := R.out.2.spd (by omega)
        have Q6 := Lib.hid q6; clear q6
        go_loop [20] (fun i => ∃ k : Nat, k ≤ m + 1 ∧ i = .int .i64 k) (fun i => m + 1 - (intOf i).toNat)
        case atStart => exact ⟨0, by omega, rfl⟩
        case round =>
          obtain ⟨k, hk, rfl⟩ := hrel
          by_cases hkm : k ≤ m
          · have d6 := Q6.out k (by omega)
            have hc := HM3.out k hkm
            have g1 : (k : Int) < ns.length := by omega
            have g2 : (0 : Int) ≤ k := by omega
            have g4 : (k : Int) ≤ (m : Int) := by omega
            generalize spd ns (k : Int) = X at d6 hc
            have hc2 : ¬ fq < X := by omega
            clear hc
            go_wp2
            go_round
            case rel => exact ⟨k + 1, by omega, by go_num⟩
            case measure => simp [intOf]; omega
          · have g4 : ¬ (k : Int) ≤ (m : Int) := by omega
            go_wp2
            by_cases ha : ea = 0
            · obtain ⟨q, hq, hq2, hl, hmin⟩ := AA.out ha
              have HM := Lib.hid hmin; clear hmin
              subst hq
              subst ha
              obtain ⟨b2, o2, rfl, hb2, q2⟩ := P0.out.2.spd (by omega)
              have Q2 := Lib.hid q2; clear q2
              go_loopw [21] (fun i wr => ∃ k : Nat, k ≤ ls.length ∧ i = .int .i64 k ∧ Below w3.heap.size w3 wr ∧ w3.heap.size < wr.heap.size ∧ wr.cell? ⟨w3.heap.size, 1, none⟩ = some (.slice (some ⟨b2, o2, none⟩) (List.length ls) c2)) (fun i _ => ls.length - (intOf i).toNat)
              case atStart => exact ⟨0, by omega, rfl, by first | exact B14 | (go_grown; done) | exact bdrewN B14 _ | exact bdrewN (by go_grown) _ | (go_grown <;> exact bdrewN B14 _), by first | omega | (simp; done) | (simp; omega), by simp [*, go_sem]⟩
              case round =>
                obtain ⟨k, hk, rfl, Br, lr, cr⟩ := hrel
                have HB := Lib.hid Br
                by_cases hlt : k < ls.length
                · have d0 := (bold Br b2 (o2 + k) hb2).trans (Q2.out k hlt)
                  have d1 := (bold Br b2 (o2 + q) hb2).trans (Q2.out q hq2)
                  have hc := HM.out k hlt
                  have g0 : (q : Int) < ls.length := by omega
                  have g1 : (k : Int) < ls.length := by omega
                  have g2 : (0 : Int) ≤ k := by omega
                  have g3 : (0 : Int) ≤ q := by omega
                  generalize spd ls (k : Int) = X at d0 hc
                  generalize spd ls (q : Int) = Y at d1 hc
                  have hc2 : ¬ X < Y := by omega
                  clear Br hc
                  go_wp2_with fail
                  go_quiet (fail)
                  go_wp2
                  go_roundw
                  case rel => exact ⟨k + 1, by omega, by go_num, (by first | exact HB.out | (have hb_ := HB.out; go_grown; done) | (have hb_ := HB.out; exact bdrewN (by go_grown) _)), by first | omega | (simp; done) | (simp; omega), by simp [*, go_sem]⟩
                  case measure => simp [intOf]; omega
                · obtain rfl : k = ls.length := by omega
                  go_wp2
                  go_ret
                  exact ⟨rfl, B3.out.trans (HB.out.mono B3.out.size)⟩
            · have ha2 : (ea == 0) = false := beq_eq_false_iff_ne.2 ha
              go_loop [21] (fun i => i = .int .i64 0) (fun _ => 0)
              case atStart => exact rfl
              case round =>
                obtain rfl := hrel
                go_wp2
                go_ret
                exact ⟨rfl, B3.out.trans (Below.mono (show Below w3.heap.size w3 _ by first | exact B14 | (go_grown; done) | exact bdrewN B14 _ | exact bdrewN (by go_grown) _ | (go_grown <;> exact bdrewN B14 _)) B3.out.size)⟩
      · have h32 : (e3 == 0) = false := beq_eq_false_iff_ne.2 h3
        go_loop [20] (fun i => i = .int .i64 0) (fun _ => 0)
        case atStart => exact rfl
        case round =>
          obtain rfl := hrel
          go_wp2
          by_cases ha : ea = 0
          · obtain ⟨q, hq, hq2, hl, hmin⟩ := AA.out ha
            have HM := Lib.hid hmin; clear hmin
            subst hq
            subst ha
            obtain ⟨b2, o2, rfl, hb2, q2⟩ := P0.out.2.spd (by omega)
            have Q2 := Lib.hid q2; clear q2
            go_loopw [21] (fun i wr => ∃ k : Nat, k ≤ ls.length ∧ i = .int .i64 k ∧ Below w3.heap.size w3 wr ∧ w3.heap.size < wr.heap.size ∧ wr.cell? ⟨w3.heap.size, 1, none⟩ = some (.slice (some ⟨b2, o2, none⟩) (List.length ls) c2)) (fun i _ => ls.length - (intOf i).toNat)
            case atStart => exact ⟨0, by omega, rfl, by first | exact B14 | (go_grown; done) | exact bdrewN B14 _ | exact bdrewN (by go_grown) _ | (go_grown <;> exact bdrewN B14 _), by first | omega | (simp; done) | (simp; omega), by simp [*, go_sem]⟩
            case round =>
              obtain ⟨k, hk, rfl, Br, lr, cr⟩ := hrel
              have HB := Lib.hid Br
              by_cases hlt : k < ls.length
              · have d0 := (bold Br b2 (o2 + k) hb2).trans (Q2.out k hlt)
                have d1 := (bold Br b2 (o2 + q) hb2).trans (Q2.out q hq2)
                have hc := HM.out k hlt
                have g0 : (q : Int) < ls.length := by omega
                have g1 : (k : Int) < ls.length := by omega
                have g2 : (0 : Int) ≤ k := by omega
                have g3 : (0 : Int) ≤ q := by omega
                generalize spd ls (k : Int) = X at d0 hc
                generalize spd ls (q : Int) = Y at d1 hc
                have hc2 : ¬ X < Y := by omega
                clear Br hc
                go_wp2_with fail
                go_quiet (fail)
                go_wp2
                go_roundw
                case rel => exact ⟨k + 1, by omega, by go_num, (by first | exact HB.out | (have hb_ := HB.out; go_grown; done) | (have hb_ := HB.out; exact bdrewN (by go_grown) _)), by first | omega | (simp; done) | (simp; omega), by simp [*, go_sem]⟩
                case measure => simp [intOf]; omega
              · obtain rfl : k = ls.length := by omega
                go_wp2
                go_ret
                exact ⟨rfl, B3.out.trans (HB.out.mono B3.out.size)⟩
          · have ha2 : (ea == 0) = false := beq_eq_false_iff_ne.2 ha
            go_loop [21] (fun i => i = .int .i64 0) (fun _ => 0)
            case atStart => exact rfl
            case round =>
              obtain rfl := hrel
              go_wp2
              go_ret
              exact ⟨rfl, B3.out.trans (Below.mono (show Below w3.heap.size w3 _ by first | exact B14 | (go_grown; done) | exact bdrewN B14 _ | exact bdrewN (by go_grown) _ | (go_grown <;> exact bdrewN B14 _)) B3.out.size)⟩
end Go.Proofs.Ytmgmhaikehjddaa
