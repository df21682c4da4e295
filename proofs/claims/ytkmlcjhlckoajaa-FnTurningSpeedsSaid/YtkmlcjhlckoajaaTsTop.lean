/- The law of FnTurningSpeeds: a ray crosses a knot exactly if its turning speed is greater than the speed there, and open layers have two such knots. -/
import Derived.Test.YtkmlcjhlckoajaaDrawCan
import Derived.Test.YtkmlcjhlckoajaaTurn
import Derived.Test.YtkmlcjhlckoajaaOpen
import Derived.Test.YtkmlcjhlckoajaaLike
import Derived.Test.YtkmlcjhlckoajaaHas
import Derived.Test.YtkmlcjhlckoajaaDivm
import Derived.Test.YtkmlcjhlckoajaaBig
import Derived.Test.YtkmlcjhlckoajaaSteep
import Derived.Deep.QuietTactic
import Derived.BigQuiet
import Derived.Deep.DeepCutAuto
namespace Go.Proofs.Ytkmlcjhlckoajaa
set_option linter.unusedSimpArgs false
set_option linter.unusedVariables false
open Go.RowKit

theorem has_append {xs ys : List Int} {x : Int} : hasB (xs ++ ys) x = (hasB xs x || hasB ys x) := by unfold hasB; rw [List.any_append]
theorem op_has (ss : List Int) (src co hy : Int) (m : Nat) : ∀ n : Nat, hasB (opTo ss src co hy n) m = (decide (m < n) && (canB ss src co hy m && canB ss src co hy ((m : Int) + 1))) := by
  intro n
  induction n with
  | zero => rfl
  | succ n ih =>
    rw [opTo]
    by_cases e : m = n
    · subst e
      split
      · rename_i h; rw [has_append, ih, h]; simp [hasB]
      · rename_i h; rw [ih]; simp only [Bool.not_eq_true] at h; rw [h]; simp
    · have e2 : decide (m < n + 1) = decide (m < n) := by
        by_cases g : m < n
        · rw [decide_eq_true g, decide_eq_true (by omega)]
        · rw [decide_eq_false g, decide_eq_false (by omega)]
      rw [e2]
      split
      · rw [has_append, ih]
        have e3 : hasB [(n : Int)] m = false := by simp [hasB]; omega
        rw [e3, Bool.or_false]
      · exact ih
theorem open_has {ds ss : List Int} {src co si hy : Int} (h0 : rayE ds ss src co si hy 0 = 0) {m : Nat} (h : m + 1 < ds.length) : hasB (openL ds ss src co si hy) m = (canB ss src co hy m && canB ss src co hy ((m : Int) + 1)) := by
  unfold openL
  rw [if_pos h0, op_has, decide_eq_true (by omega), Bool.true_and]
/-- the turning speed is greater than the speed at a knot exactly if the knot is crossed -/
theorem ts_can {ds ss : List Int} {src co si hy : Int} (h0 : rayE ds ss src co si hy 0 = 0) (hts : tsC ds ss src co si hy = 0) (k : Int) :
    decide (spd ss k * tsD ds ss src co si hy < tsN ds ss src co si hy) = canB ss src co hy k ∧ 1 ≤ tsD ds ss src co si hy ∧ tsD ds ss src co si hy ≤ 1000 := by
  have r := rayOk_zero h0
  have c0 := r.c0; have c1 := r.c1; have h1 := r.h1
  have w := r.whole
  have e1 : tsC ds ss src co si hy = ratC (hy * spd ss src) co 3 := by unfold tsC; rw [if_pos h0]
  have e2 : tsN ds ss src co si hy = ratN (hy * spd ss src) co := by unfold tsN; rw [if_pos h0]
  have e3 : tsD ds ss src co si hy = ratD (hy * spd ss src) co := by unfold tsD; rw [if_pos h0]
  rw [e1] at hts
  rw [e2, e3]
  have hok : ratOk (hy * spd ss src) co = true := by
    unfold ratC at hts
    cases hh : ratOk (hy * spd ss src) co with
    | true => rfl
    | false => rw [hh] at hts; simp at hts
  unfold ratN ratD
  rw [hok]
  simp only [if_true]
  unfold canB
  generalize hy * spd ss src = S at *
  have hp : 0 < Int.gcd S co := Int.gcd_pos_of_ne_zero_right S (by omega)
  have g0 : 1 ≤ gcI S co := by unfold gcI; omega
  have k1 := Int.ediv_mul_cancel (show gcI S co ∣ S from Int.gcd_dvd_left S co)
  have k2 := Int.ediv_mul_cancel (show gcI S co ∣ co from Int.gcd_dvd_right S co)
  change rnE S co * gcI S co = S at k1
  change rdE S co * gcI S co = co at k2
  generalize rnE S co = N at *
  generalize rdE S co = D at *
  generalize gcI S co = g at *
  have hD : 1 ≤ D := by
    rcases Int.lt_or_le 0 D with q | q
    · omega
    · have := Int.mul_nonneg (show 0 ≤ -D by omega) (show 0 ≤ g by omega)
      rw [Int.neg_mul] at this; omega
  have hD2 : D ≤ co := by
    have := Int.mul_le_mul_of_nonneg_left (show 1 ≤ g by omega) (show 0 ≤ D by omega)
    omega
  refine ⟨?_, hD, by omega⟩
  generalize spd ss k = v
  have e4 : co * v = v * D * g := by rw [← k2, Int.mul_comm (D * g) v, Int.mul_assoc]
  rw [e4, ← k1]
  by_cases hlt : v * D < N
  · rw [decide_eq_true hlt, decide_eq_true (Int.mul_lt_mul_of_pos_right hlt (by omega))]
  · rw [decide_eq_false hlt, decide_eq_false]
    have := Int.mul_le_mul_of_nonneg_right (show N ≤ v * D by omega) (show 0 ≤ g by omega)
    omega
theorem ts_bad {ds ss : List Int} {src co si hy : Int} (h : rayE ds ss src co si hy 0 ≠ 0) : tsC ds ss src co si hy = rayE ds ss src co si hy 0 := by unfold tsC; rw [if_neg h]

set_option maxRecDepth 100000 in
set_option maxHeartbeats 16000000 in
theorem lawTurningSpeeds_any (A : Option Addr) (c : Nat) (xs : List Int) (w : World) (h : BytesAt w A c xs) :
    Calls Try.prog 7 #[.slice A xs.length c] w fun e w' => e = .returned (.bool true) ∧ Below w.heap.size w w' := by
  have hn := Nat.le_trans h.1 h.2.1
  have H := Lib.hid h; clear h
  by_cases hbig : (4096 : Int) < xs.length
  · go_enter Try.func7, Try.ntmps7
    go_wp2_with (go_at_call 11; refine (big_any _ _ _ _ hn).mono ?_; rintro e w' ⟨rfl, rfl⟩)
    go_ret
    exact ⟨rfl, Below.refl _ _⟩
  · go_enter Try.func7, Try.ntmps7
    go_wp2_with (go_at_call 11; refine (big_any _ _ _ _ hn).mono ?_; rintro e w' ⟨rfl, rfl⟩)
    refine (drawTurningSpeed_any A c xs _ H.out).mono ?_
    rintro e w3 ⟨⟨A1, c1, A2, c2, ts, ls, src, co, si, hy, rfl, rp⟩, hb3⟩
    have P := Lib.hid rp.at; clear rp
    have HX := Lib.hid (H.out.below hb3 (Nat.le_refl _))
    have B3 := Lib.hid hb3; clear hb3
    go_wp2_with fail
    refine (implTurningSpeed_any _ _ _ _ _ _ _ _ _ _ _ (P.out.below (B := w3.heap.size) (by first | exact Below.refl _ _ | (go_grown; done) | exact bdrewN (by go_grown) _) (Nat.le_refl _))).mono ?_
    rintro e w4 ⟨rfl, hb4⟩
    have P := Lib.hid (((P.out).below (B := w3.heap.size) (by first | exact Below.refl _ _ | (go_grown; done) | exact bdrewN (by go_grown) _) (Nat.le_refl _)).below hb4 (Nat.le_refl _))
    obtain ⟨B4, hz4, q4, s4, t4, x4, y4, z4⟩ := bkeep (w := w3) [w3.heap.size, w3.heap.size + 1] (by first | (simp; done) | (simp; omega)) (by first | (go_grown; done) | exact bdrewN (by go_grown) _) hb4; (try simp at hz4); clear hb4
    go_wp2_with fail
    refine (specTurningSpeed_any _ _ _ _ _ _ _ _ _ _ _ (P.out.below (B := w4.heap.size) (by first | exact Below.refl _ _ | (go_grown; done) | exact bdrewN (by go_grown) _) (Nat.le_refl _))).mono ?_
    rintro e w5 ⟨rfl, hb5⟩
    have P := Lib.hid (((P.out).below (B := w4.heap.size) (by first | exact Below.refl _ _ | (go_grown; done) | exact bdrewN (by go_grown) _) (Nat.le_refl _)).below hb5 (Nat.le_refl _))
    obtain ⟨B5, hz5, q5, s5, t5, x5, y5, z5⟩ := bkeep (w := w3) [w3.heap.size, w3.heap.size + 1, w4.heap.size] (by first | (simp; done) | (simp; omega)) (by first | (go_grown; done) | exact bdrewN (by go_grown) _) hb5; (try simp at hz5); clear hb5
    go_wp2_with fail
    refine (implLayersOpen_any _ _ _ _ _ _ _ _ _ _ _ (P.out.below (B := w5.heap.size) (by first | exact Below.refl _ _ | (go_grown; done) | exact bdrewN (by go_grown) _) (Nat.le_refl _))).mono ?_
    rintro e w6 ⟨⟨F1, f1, rfl, rr⟩, hb6⟩
    have P := Lib.hid (((P.out).below (B := w5.heap.size) (by first | exact Below.refl _ _ | (go_grown; done) | exact bdrewN (by go_grown) _) (Nat.le_refl _)).below hb6 (Nat.le_refl _))
    have L := Lib.hid (rr.at)
    obtain ⟨B6, hz6, q6, s6, t6, x6, y6, z6⟩ := bkeep (w := w3) [w3.heap.size, w3.heap.size + 1, w4.heap.size, w5.heap.size] (by first | (simp; done) | (simp; omega)) (by first | (go_grown; done) | exact bdrewN (by go_grown) _) hb6; (try simp at hz6); clear hb6
    clear rr
    go_wp2_with fail
    refine (specLayersOpen_any _ _ _ _ _ _ _ _ _ _ _ (P.out.below (B := w6.heap.size) (by first | exact Below.refl _ _ | (go_grown; done) | exact bdrewN (by go_grown) _) (Nat.le_refl _))).mono ?_
    rintro e w7 ⟨⟨F2, f2, rfl, rr⟩, hb7⟩
    have P := Lib.hid (((P.out).below (B := w6.heap.size) (by first | exact Below.refl _ _ | (go_grown; done) | exact bdrewN (by go_grown) _) (Nat.le_refl _)).below hb7 (Nat.le_refl _))
    have L := Lib.hid (((L.out).below (B := w6.heap.size) (by first | exact Below.refl _ _ | (go_grown; done) | exact bdrewN (by go_grown) _) (Nat.le_refl _)).below hb7 (Nat.le_refl _))
    have G := Lib.hid (rr.at)
    obtain ⟨B7, hz7, q7, s7, t7, x7, y7, z7⟩ := bkeep (w := w3) [w3.heap.size, w3.heap.size + 1, w4.heap.size, w5.heap.size] (by first | (simp; done) | (simp; omega)) (by first | (go_grown; done) | exact bdrewN (by go_grown) _) hb7; (try simp at hz7); clear hb7
    clear rr
    go_wp2_with fail
    refine (likeInts_same _ _ _ _ _ _ (L.out.below (B := w7.heap.size) (by first | exact Below.refl _ _ | (go_grown; done) | exact bdrewN (by go_grown) _) (Nat.le_refl _)) (G.out.below (B := w7.heap.size) (by first | exact Below.refl _ _ | (go_grown; done) | exact bdrewN (by go_grown) _) (Nat.le_refl _))).mono ?_
    rintro e w8 ⟨rfl, hb8⟩
    have P := Lib.hid (((P.out).below (B := w7.heap.size) (by first | exact Below.refl _ _ | (go_grown; done) | exact bdrewN (by go_grown) _) (Nat.le_refl _)).below hb8 (Nat.le_refl _))
    have L := Lib.hid (((L.out).below (B := w7.heap.size) (by first | exact Below.refl _ _ | (go_grown; done) | exact bdrewN (by go_grown) _) (Nat.le_refl _)).below hb8 (Nat.le_refl _))
    have G := Lib.hid (((G.out).below (B := w7.heap.size) (by first | exact Below.refl _ _ | (go_grown; done) | exact bdrewN (by go_grown) _) (Nat.le_refl _)).below hb8 (Nat.le_refl _))
    obtain ⟨B8, hz8, q8, s8, t8, x8, y8, z8⟩ := bkeep (w := w3) [w3.heap.size, w3.heap.size + 1, w4.heap.size, w5.heap.size] (by first | (simp; done) | (simp; omega)) (by first | (go_grown; done) | exact bdrewN (by go_grown) _) hb8; (try simp at hz8); clear hb8
    by_cases h0 : rayE ts ls src co si hy 0 = 0
    · have r := rayOk_zero h0
      have rs0 := r.s0; have rs1 := r.s1; have rl0 := r.l0; have rl1 := r.l1; have rl2 := r.l2; have rl3 := r.l3; have rc0 := r.c0; have rc1 := r.c1; have rh1 := r.h1
      obtain ⟨N, hN⟩ : ∃ x, tsN ts ls src co si hy = x := ⟨_, rfl⟩
      obtain ⟨D, hD⟩ : ∃ x, tsD ts ls src co si hy = x := ⟨_, rfl⟩
      obtain ⟨C, hC⟩ : ∃ x, tsC ts ls src co si hy = x := ⟨_, rfl⟩
      go_upto_region 12 with fail
      refine genS (S := fun w' => Below w3.heap.size w3 w' ∧ w3.heap.size < w'.heap.size ∧ w3.heap.size + 1 < w'.heap.size ∧ w4.heap.size < w'.heap.size ∧ w'.cell? ⟨w3.heap.size, 0, none⟩ = some (.slice A1 (List.length ts) c1) ∧ w'.cell? ⟨w3.heap.size, 1, none⟩ = some (.slice A2 (List.length ls) c2) ∧ w'.cell? ⟨w3.heap.size + 1, 0, none⟩ = some (.int .i64 co) ∧ w'.cell? ⟨w3.heap.size + 1, 1, none⟩ = some (.int .i64 si) ∧ w'.cell? ⟨w3.heap.size + 1, 2, none⟩ = some (.int .i64 hy) ∧ w'.cell? ⟨w4.heap.size, 0, none⟩ = some (.int .i64 N) ∧ w'.cell? ⟨w4.heap.size, 1, none⟩ = some (.int .i64 D) ∧ ProfAt w' A1 c1 A2 c2 ts ls ∧ IntsAt w' F1 f1 (openL ts ls src co si hy)) ⟨(by first | exact B8 | exact bdrewN B8 _ | exact bdrewN (bdrewN B8 _) _ | (go_grown; done) | (go_grown <;> exact bdrewN B8 _)), by first | omega | (simp; done) | (simp; omega), by first | omega | (simp; done) | (simp; omega), by first | omega | (simp; done) | (simp; omega), by simp [*, go_sem], by simp [*, go_sem], by simp [*, go_sem], by simp [*, go_sem], by simp [*, go_sem], by simp [*, go_sem], by simp [*, go_sem], (P.out).below (B := w8.heap.size) (by first | exact Below.refl _ _ | exact bdrewN (Below.refl _ _) _ | exact bdrewN (bdrewN (Below.refl _ _) _) _ | (go_grown; done) | exact bdrewN (by go_grown) _) (Nat.le_refl _), (L.out).below (B := w8.heap.size) (by first | exact Below.refl _ _ | exact bdrewN (Below.refl _ _) _ | exact bdrewN (bdrewN (Below.refl _ _) _) _ | (go_grown; done) | exact bdrewN (by go_grown) _) (Nat.le_refl _)⟩ ?_
      clear q4 s4 t4 x4 y4 z4 hz4 q5 s5 t5 x5 y5 z5 hz5 q6 s6 t6 x6 y6 z6 hz6 q7 s7 t7 x7 y7 z7 hz7 q8 s8 t8 x8 y8 z8 hz8
      rintro w9 ⟨B9, lt9_0, lt9_1, lt9_2, c9_0, c9_1, c9_2, c9_3, c9_4, c9_5, c9_6, rr_P, rr_L⟩
      have P := Lib.hid rr_P; clear rr_P
      have L := Lib.hid rr_L; clear rr_L
      have TS := Lib.hid (show C = 0 → ∀ k, decide (spd ls k * D < N) = canB ls src co hy k ∧ 1 ≤ D ∧ D ≤ 1000 from fun e k => by rw [← hN, ← hD]; exact ts_can h0 (hC.trans e) k)
      have OH := Lib.hid (fun (m : Nat) (hm : m + 1 < ts.length) => open_has h0 hm)
      have RE := Lib.hid (show ∀ k : Nat, k < ts.length → rayE ts ls src co si hy k = 0 ∧ crossI ts ls src co si hy k = canB ls src co hy k from fun k hk => by
        obtain ⟨h1, h2, h3, h4⟩ := rayE_in h0
        have e := rayE_of (k := (k : Int)) h1 h2 h3 (by simp [inB]; omega)
        exact ⟨e, by unfold crossI; rw [e]; rfl⟩)
      have RR := Lib.hid r; clear hN hD hC r
      have BB := Lib.hid B9; clear B9 G
      have hol := openL_len ts ls src co si hy
      go_wp2_with fail
      go_loopw [14] (fun i wr => Below w9.heap.size w9 wr ∧ ∃ k : Nat, i = .int .i64 k ∧ k ≤ ts.length) (fun i _ => ts.length - (intOf i).toNat)
      case atStart => exact ⟨Below.refl _ _, 0, rfl, by omega⟩
      case round =>
        obtain ⟨Br, k, rfl, hk⟩ := hrel
        have sr : w9.heap.size ≤ wr.heap.size := Br.size
        have g0 := (bAt Br (b := w3.heap.size) (o := 0) (by omega)).trans c9_0
        have g1 := (bAt Br (b := w3.heap.size) (o := 1) (by omega)).trans c9_1
        have g2 := (bAt Br (b := w3.heap.size + 1) (o := 0) (by omega)).trans c9_2
        have g3 := (bAt Br (b := w3.heap.size + 1) (o := 1) (by omega)).trans c9_3
        have g4 := (bAt Br (b := w3.heap.size + 1) (o := 2) (by omega)).trans c9_4
        have g5 := (bAt Br (b := w4.heap.size) (o := 0) (by omega)).trans c9_5
        have g6 := (bAt Br (b := w4.heap.size) (o := 1) (by omega)).trans c9_6
        clear c9_0 c9_1 c9_2 c9_3 c9_4 c9_5 c9_6
        have P := Lib.hid (P.out.below Br (Nat.le_refl _)); have L := Lib.hid (L.out.below Br (Nat.le_refl _))
        have BR := Lib.hid Br; clear Br
        by_cases hlt : k < ts.length
        · have hnext : ts.length - (k + 1) < ts.length - k := by omega
          obtain ⟨b2, o2, rfl, hb2, q2⟩ := P.out.2.spd (by omega)
          have sk := q2 k (by omega)
          obtain ⟨e1, e2⟩ := RE.out k hlt
          have vk := RR.out.sp k (by omega) (by omega)
          have TS1 := Lib.hid (fun e => TS.out e k)
          obtain ⟨c1_, hc1⟩ : ∃ x, canB ls src co hy k = x := ⟨_, rfl⟩
          rw [hc1] at e2
          have TS2 := Lib.hid (show C = 0 → decide (spd ls k * D < N) = c1_ ∧ 1 ≤ D ∧ D ≤ 1000 from fun e => by rw [← hc1]; exact TS1.out e)
          generalize spd ls (k : Int) = xk at *
          have HC1 := Lib.hid hc1; clear hc1 q2 TS1
          have kk0 : (0 : Int) ≤ k := by omega
          have kk1 : (k : Int) < ls.length := by omega
          have kk2 : (k : Int) < ts.length := by omega
          have hb2 : b2 < wr.heap.size := hb2
          by_cases hts : C = 0
          · obtain ⟨d1, d2, d3⟩ := TS2.out hts
            subst hts
            obtain ⟨m1_, m2_⟩ := mul_bd (a := xk) (b := D) (A := 1700000) (B := 1000) (by omega) (by omega) (by omega) (by omega)
            rcases c1_ with _ | _
            · rcases k with _ | m
              · rw [show ((0 : Nat) : Int) = 0 from rfl] at e1 e2 kk1 kk2
                rw [Nat.add_zero] at sk
                go_wp2_with fail
                refine (implCanCross_any _ _ _ _ _ _ _ _ _ _ _ _ (P.out.below (B := wr.heap.size) (by first | exact Below.refl _ _ | (go_grown; done)) (Nat.le_refl _))).mono ?_
                rintro e w10 ⟨rfl, hb10⟩
                have P := Lib.hid (P.out.below hb10 (Nat.le_refl _)); have L := Lib.hid (L.out.below hb10 (Nat.le_refl _))
                obtain ⟨B10, hz10, q10, s10, t10, x10, y10, z10⟩ := bkeep (w := wr) [w3.heap.size, w3.heap.size + 1, w4.heap.size, b2] (by first | (simp; done) | (simp; omega)) (by first | exact Below.refl _ _ | (go_grown; done)) hb10; (try simp at hz10); clear hb10
                have sk := (t10 b2 _ hb2).trans sk
                go_wp2_with fail
                have W0 : IntKind.i64.wrap (xk * D) = xk * D := IntWalk.i64_in _ (by omega)
                go_quiet (fail)
                clear W0
                go_wp2
                go_roundw
                case rel => exact ⟨BR.out.trans ((bdrewN B10 _).mono sr), 0 + 1, by go_num, by omega⟩
                case measure => simp [intOf]; omega
              · obtain ⟨e3, e4⟩ := RE.out m (by omega)
                have OHm := OH.out m (by omega)
                have kq : ((m + 1 : Nat) : Int) = (m : Int) + 1 := by omega
                have hc1 := HC1.out
                rw [kq] at hc1 e1 e2 kk1 kk2 kk0
                rw [hc1] at OHm
                clear hc1
                have kt : ((m : Int) + 1).toNat = m + 1 := by omega
                have ks : (m : Int) + 1 - 1 = m := by omega
                have kz : ((m : Int) + 1 == 0) = false := beq_eq_false_iff_ne.2 (by omega)
                clear kq
                go_wp2_with fail
                refine (implCanCross_any _ _ _ _ _ _ _ _ _ _ _ _ (P.out.below (B := wr.heap.size) (by first | exact Below.refl _ _ | (go_grown; done)) (Nat.le_refl _))).mono ?_
                rintro e w10 ⟨rfl, hb10⟩
                have P := Lib.hid (P.out.below hb10 (Nat.le_refl _)); have L := Lib.hid (L.out.below hb10 (Nat.le_refl _))
                obtain ⟨B10, hz10, q10, s10, t10, x10, y10, z10⟩ := bkeep (w := wr) [w3.heap.size, w3.heap.size + 1, w4.heap.size, b2] (by first | (simp; done) | (simp; omega)) (by first | exact Below.refl _ _ | (go_grown; done)) hb10; (try simp at hz10); clear hb10
                have sk := (t10 b2 _ hb2).trans sk
                go_wp2_with fail
                have W0 : IntKind.i64.wrap (xk * D) = xk * D := IntWalk.i64_in _ (by omega)
                go_quiet (fail)
                clear W0
                go_wp2_with fail
                refine (implCanCross_any _ _ _ _ _ _ _ _ _ _ _ _ (P.out.below (B := w10.heap.size) (by first | exact bdrewN (Below.refl _ _) _ | (go_grown; done) | (go_grown <;> exact bdrewN (Below.refl _ _) _) | exact bdrewN (by go_grown) _) (Nat.le_refl _))).mono ?_
                rintro e w11 ⟨rfl, hb11⟩
                have L := Lib.hid ((L.out.below (B := w10.heap.size) (by first | exact bdrewN (Below.refl _ _) _ | (go_grown; done) | (go_grown <;> exact bdrewN (Below.refl _ _) _) | exact bdrewN (by go_grown) _) (Nat.le_refl _)).below hb11 (Nat.le_refl _))
                obtain ⟨B11, hz11, q11, s11, t11, x11, y11, z11⟩ := bkeep (w := wr) [w3.heap.size, w3.heap.size + 1, w4.heap.size, b2] (by intro b hb; have := x10 b hb; first | simpa using this | (simp; omega)) (by first | exact bdrewN B10 _ | (go_grown; done) | (go_grown <;> exact bdrewN B10 _)) hb11; (try simp at hz11); clear hb11
                obtain ⟨c0_, hc0⟩ : ∃ x, canB ls src co hy m = x := ⟨_, rfl⟩
                rw [hc0] at e4 OHm
                clear hc0
                rcases c0_ with _ | _
                · go_wp2_with fail
                  refine (hasInt_any _ _ _ _ _ (L.out.below (B := w11.heap.size) (by first | exact Below.refl _ _ | (go_grown; done)) (Nat.le_refl _))).mono ?_
                  rintro e w12 ⟨rfl, hb12⟩
                  have B12 := B11.trans (hb12.mono (by omega))
                  clear hb12
                  go_wp2
                  go_roundw
                  case rel => exact ⟨BR.out.trans (B12.mono sr), m + 1 + 1, by go_num, by omega⟩
                  case measure => simp [intOf]; omega
                · go_wp2_with fail
                  refine (hasInt_any _ _ _ _ _ (L.out.below (B := w11.heap.size) (by first | exact Below.refl _ _ | (go_grown; done)) (Nat.le_refl _))).mono ?_
                  rintro e w12 ⟨rfl, hb12⟩
                  have B12 := B11.trans (hb12.mono (by omega))
                  clear hb12
                  go_wp2
                  go_roundw
                  case rel => exact ⟨BR.out.trans (B12.mono sr), m + 1 + 1, by go_num, by omega⟩
                  case measure => simp [intOf]; omega
            · rcases k with _ | m
              · rw [show ((0 : Nat) : Int) = 0 from rfl] at e1 e2 kk1 kk2
                rw [Nat.add_zero] at sk
                go_wp2_with fail
                refine (implCanCross_any _ _ _ _ _ _ _ _ _ _ _ _ (P.out.below (B := wr.heap.size) (by first | exact Below.refl _ _ | (go_grown; done)) (Nat.le_refl _))).mono ?_
                rintro e w10 ⟨rfl, hb10⟩
                have P := Lib.hid (P.out.below hb10 (Nat.le_refl _)); have L := Lib.hid (L.out.below hb10 (Nat.le_refl _))
                obtain ⟨B10, hz10, q10, s10, t10, x10, y10, z10⟩ := bkeep (w := wr) [w3.heap.size, w3.heap.size + 1, w4.heap.size, b2] (by first | (simp; done) | (simp; omega)) (by first | exact Below.refl _ _ | (go_grown; done)) hb10; (try simp at hz10); clear hb10
                have sk := (t10 b2 _ hb2).trans sk
                go_wp2_with fail
                have W0 : IntKind.i64.wrap (xk * D) = xk * D := IntWalk.i64_in _ (by omega)
                go_quiet (fail)
                clear W0
                go_wp2
                go_roundw
                case rel => exact ⟨BR.out.trans ((bdrewN B10 _).mono sr), 0 + 1, by go_num, by omega⟩
                case measure => simp [intOf]; omega
              · obtain ⟨e3, e4⟩ := RE.out m (by omega)
                have OHm := OH.out m (by omega)
                have kq : ((m + 1 : Nat) : Int) = (m : Int) + 1 := by omega
                have hc1 := HC1.out
                rw [kq] at hc1 e1 e2 kk1 kk2 kk0
                rw [hc1] at OHm
                clear hc1
                have kt : ((m : Int) + 1).toNat = m + 1 := by omega
                have ks : (m : Int) + 1 - 1 = m := by omega
                have kz : ((m : Int) + 1 == 0) = false := beq_eq_false_iff_ne.2 (by omega)
                clear kq
                go_wp2_with fail
                refine (implCanCross_any _ _ _ _ _ _ _ _ _ _ _ _ (P.out.below (B := wr.heap.size) (by first | exact Below.refl _ _ | (go_grown; done)) (Nat.le_refl _))).mono ?_
                rintro e w10 ⟨rfl, hb10⟩
                have P := Lib.hid (P.out.below hb10 (Nat.le_refl _)); have L := Lib.hid (L.out.below hb10 (Nat.le_refl _))
                obtain ⟨B10, hz10, q10, s10, t10, x10, y10, z10⟩ := bkeep (w := wr) [w3.heap.size, w3.heap.size + 1, w4.heap.size, b2] (by first | (simp; done) | (simp; omega)) (by first | exact Below.refl _ _ | (go_grown; done)) hb10; (try simp at hz10); clear hb10
                have sk := (t10 b2 _ hb2).trans sk
                go_wp2_with fail
                have W0 : IntKind.i64.wrap (xk * D) = xk * D := IntWalk.i64_in _ (by omega)
                go_quiet (fail)
                clear W0
                go_wp2_with fail
                refine (implCanCross_any _ _ _ _ _ _ _ _ _ _ _ _ (P.out.below (B := w10.heap.size) (by first | exact bdrewN (Below.refl _ _) _ | (go_grown; done) | (go_grown <;> exact bdrewN (Below.refl _ _) _) | exact bdrewN (by go_grown) _) (Nat.le_refl _))).mono ?_
                rintro e w11 ⟨rfl, hb11⟩
                have L := Lib.hid ((L.out.below (B := w10.heap.size) (by first | exact bdrewN (Below.refl _ _) _ | (go_grown; done) | (go_grown <;> exact bdrewN (Below.refl _ _) _) | exact bdrewN (by go_grown) _) (Nat.le_refl _)).below hb11 (Nat.le_refl _))
                obtain ⟨B11, hz11, q11, s11, t11, x11, y11, z11⟩ := bkeep (w := wr) [w3.heap.size, w3.heap.size + 1, w4.heap.size, b2] (by intro b hb; have := x10 b hb; first | simpa using this | (simp; omega)) (by first | exact bdrewN B10 _ | (go_grown; done) | (go_grown <;> exact bdrewN B10 _)) hb11; (try simp at hz11); clear hb11
                obtain ⟨c0_, hc0⟩ : ∃ x, canB ls src co hy m = x := ⟨_, rfl⟩
                rw [hc0] at e4 OHm
                clear hc0
                rcases c0_ with _ | _
                · go_wp2_with fail
                  refine (hasInt_any _ _ _ _ _ (L.out.below (B := w11.heap.size) (by first | exact Below.refl _ _ | (go_grown; done)) (Nat.le_refl _))).mono ?_
                  rintro e w12 ⟨rfl, hb12⟩
                  have B12 := B11.trans (hb12.mono (by omega))
                  clear hb12
                  go_wp2
                  go_roundw
                  case rel => exact ⟨BR.out.trans (B12.mono sr), m + 1 + 1, by go_num, by omega⟩
                  case measure => simp [intOf]; omega
                · go_wp2_with fail
                  refine (hasInt_any _ _ _ _ _ (L.out.below (B := w11.heap.size) (by first | exact Below.refl _ _ | (go_grown; done)) (Nat.le_refl _))).mono ?_
                  rintro e w12 ⟨rfl, hb12⟩
                  have B12 := B11.trans (hb12.mono (by omega))
                  clear hb12
                  go_wp2
                  go_roundw
                  case rel => exact ⟨BR.out.trans (B12.mono sr), m + 1 + 1, by go_num, by omega⟩
                  case measure => simp [intOf]; omega
          · have hts2 : (C == 0) = false := beq_eq_false_iff_ne.2 hts
            rcases c1_ with _ | _
            · rcases k with _ | m
              · rw [show ((0 : Nat) : Int) = 0 from rfl] at e1 e2 kk1 kk2
                rw [Nat.add_zero] at sk
                go_wp2_with fail
                refine (implCanCross_any _ _ _ _ _ _ _ _ _ _ _ _ (P.out.below (B := wr.heap.size) (by first | exact Below.refl _ _ | (go_grown; done)) (Nat.le_refl _))).mono ?_
                rintro e w10 ⟨rfl, hb10⟩
                have P := Lib.hid (P.out.below hb10 (Nat.le_refl _)); have L := Lib.hid (L.out.below hb10 (Nat.le_refl _))
                obtain ⟨B10, hz10, q10, s10, t10, x10, y10, z10⟩ := bkeep (w := wr) [w3.heap.size, w3.heap.size + 1, w4.heap.size, b2] (by first | (simp; done) | (simp; omega)) (by first | exact Below.refl _ _ | (go_grown; done)) hb10; (try simp at hz10); clear hb10
                have sk := (t10 b2 _ hb2).trans sk
                go_wp2_with fail
                go_quiet (fail)
                go_wp2
                go_roundw
                case rel => exact ⟨BR.out.trans ((bdrewN B10 _).mono sr), 0 + 1, by go_num, by omega⟩
                case measure => simp [intOf]; omega
              · obtain ⟨e3, e4⟩ := RE.out m (by omega)
                have OHm := OH.out m (by omega)
                have kq : ((m + 1 : Nat) : Int) = (m : Int) + 1 := by omega
                have hc1 := HC1.out
                rw [kq] at hc1 e1 e2 kk1 kk2 kk0
                rw [hc1] at OHm
                clear hc1
                have kt : ((m : Int) + 1).toNat = m + 1 := by omega
                have ks : (m : Int) + 1 - 1 = m := by omega
                have kz : ((m : Int) + 1 == 0) = false := beq_eq_false_iff_ne.2 (by omega)
                clear kq
                go_wp2_with fail
                refine (implCanCross_any _ _ _ _ _ _ _ _ _ _ _ _ (P.out.below (B := wr.heap.size) (by first | exact Below.refl _ _ | (go_grown; done)) (Nat.le_refl _))).mono ?_
                rintro e w10 ⟨rfl, hb10⟩
                have P := Lib.hid (P.out.below hb10 (Nat.le_refl _)); have L := Lib.hid (L.out.below hb10 (Nat.le_refl _))
                obtain ⟨B10, hz10, q10, s10, t10, x10, y10, z10⟩ := bkeep (w := wr) [w3.heap.size, w3.heap.size + 1, w4.heap.size, b2] (by first | (simp; done) | (simp; omega)) (by first | exact Below.refl _ _ | (go_grown; done)) hb10; (try simp at hz10); clear hb10
                have sk := (t10 b2 _ hb2).trans sk
                go_wp2_with fail
                go_quiet (fail)
                go_wp2_with fail
                refine (implCanCross_any _ _ _ _ _ _ _ _ _ _ _ _ (P.out.below (B := w10.heap.size) (by first | exact bdrewN (Below.refl _ _) _ | (go_grown; done) | (go_grown <;> exact bdrewN (Below.refl _ _) _) | exact bdrewN (by go_grown) _) (Nat.le_refl _))).mono ?_
                rintro e w11 ⟨rfl, hb11⟩
                have L := Lib.hid ((L.out.below (B := w10.heap.size) (by first | exact bdrewN (Below.refl _ _) _ | (go_grown; done) | (go_grown <;> exact bdrewN (Below.refl _ _) _) | exact bdrewN (by go_grown) _) (Nat.le_refl _)).below hb11 (Nat.le_refl _))
                obtain ⟨B11, hz11, q11, s11, t11, x11, y11, z11⟩ := bkeep (w := wr) [w3.heap.size, w3.heap.size + 1, w4.heap.size, b2] (by intro b hb; have := x10 b hb; first | simpa using this | (simp; omega)) (by first | exact bdrewN B10 _ | (go_grown; done) | (go_grown <;> exact bdrewN B10 _)) hb11; (try simp at hz11); clear hb11
                obtain ⟨c0_, hc0⟩ : ∃ x, canB ls src co hy m = x := ⟨_, rfl⟩
                rw [hc0] at e4 OHm
                clear hc0
                rcases c0_ with _ | _
                · go_wp2_with fail
                  refine (hasInt_any _ _ _ _ _ (L.out.below (B := w11.heap.size) (by first | exact Below.refl _ _ | (go_grown; done)) (Nat.le_refl _))).mono ?_
                  rintro e w12 ⟨rfl, hb12⟩
                  have B12 := B11.trans (hb12.mono (by omega))
                  clear hb12
                  go_wp2
                  go_roundw
                  case rel => exact ⟨BR.out.trans (B12.mono sr), m + 1 + 1, by go_num, by omega⟩
                  case measure => simp [intOf]; omega
                · go_wp2_with fail
                  refine (hasInt_any _ _ _ _ _ (L.out.below (B := w11.heap.size) (by first | exact Below.refl _ _ | (go_grown; done)) (Nat.le_refl _))).mono ?_
                  rintro e w12 ⟨rfl, hb12⟩
                  have B12 := B11.trans (hb12.mono (by omega))
                  clear hb12
                  go_wp2
                  go_roundw
                  case rel => exact ⟨BR.out.trans (B12.mono sr), m + 1 + 1, by go_num, by omega⟩
                  case measure => simp [intOf]; omega
            · rcases k with _ | m
              · rw [show ((0 : Nat) : Int) = 0 from rfl] at e1 e2 kk1 kk2
                rw [Nat.add_zero] at sk
                go_wp2_with fail
                refine (implCanCross_any _ _ _ _ _ _ _ _ _ _ _ _ (P.out.below (B := wr.heap.size) (by first | exact Below.refl _ _ | (go_grown; done)) (Nat.le_refl _))).mono ?_
                rintro e w10 ⟨rfl, hb10⟩
                have P := Lib.hid (P.out.below hb10 (Nat.le_refl _)); have L := Lib.hid (L.out.below hb10 (Nat.le_refl _))
                obtain ⟨B10, hz10, q10, s10, t10, x10, y10, z10⟩ := bkeep (w := wr) [w3.heap.size, w3.heap.size + 1, w4.heap.size, b2] (by first | (simp; done) | (simp; omega)) (by first | exact Below.refl _ _ | (go_grown; done)) hb10; (try simp at hz10); clear hb10
                have sk := (t10 b2 _ hb2).trans sk
                go_wp2_with fail
                go_quiet (fail)
                go_wp2
                go_roundw
                case rel => exact ⟨BR.out.trans ((bdrewN B10 _).mono sr), 0 + 1, by go_num, by omega⟩
                case measure => simp [intOf]; omega
              · obtain ⟨e3, e4⟩ := RE.out m (by omega)
                have OHm := OH.out m (by omega)
                have kq : ((m + 1 : Nat) : Int) = (m : Int) + 1 := by omega
                have hc1 := HC1.out
                rw [kq] at hc1 e1 e2 kk1 kk2 kk0
                rw [hc1] at OHm
                clear hc1
                have kt : ((m : Int) + 1).toNat = m + 1 := by omega
                have ks : (m : Int) + 1 - 1 = m := by omega
                have kz : ((m : Int) + 1 == 0) = false := beq_eq_false_iff_ne.2 (by omega)
                clear kq
                go_wp2_with fail
                refine (implCanCross_any _ _ _ _ _ _ _ _ _ _ _ _ (P.out.below (B := wr.heap.size) (by first | exact Below.refl _ _ | (go_grown; done)) (Nat.le_refl _))).mono ?_
                rintro e w10 ⟨rfl, hb10⟩
                have P := Lib.hid (P.out.below hb10 (Nat.le_refl _)); have L := Lib.hid (L.out.below hb10 (Nat.le_refl _))
                obtain ⟨B10, hz10, q10, s10, t10, x10, y10, z10⟩ := bkeep (w := wr) [w3.heap.size, w3.heap.size + 1, w4.heap.size, b2] (by first | (simp; done) | (simp; omega)) (by first | exact Below.refl _ _ | (go_grown; done)) hb10; (try simp at hz10); clear hb10
                have sk := (t10 b2 _ hb2).trans sk
                go_wp2_with fail
                go_quiet (fail)
                go_wp2_with fail
                refine (implCanCross_any _ _ _ _ _ _ _ _ _ _ _ _ (P.out.below (B := w10.heap.size) (by first | exact bdrewN (Below.refl _ _) _ | (go_grown; done) | (go_grown <;> exact bdrewN (Below.refl _ _) _) | exact bdrewN (by go_grown) _) (Nat.le_refl _))).mono ?_
                rintro e w11 ⟨rfl, hb11⟩
                have L := Lib.hid ((L.out.below (B := w10.heap.size) (by first | exact bdrewN (Below.refl _ _) _ | (go_grown; done) | (go_grown <;> exact bdrewN (Below.refl _ _) _) | exact bdrewN (by go_grown) _) (Nat.le_refl _)).below hb11 (Nat.le_refl _))
                obtain ⟨B11, hz11, q11, s11, t11, x11, y11, z11⟩ := bkeep (w := wr) [w3.heap.size, w3.heap.size + 1, w4.heap.size, b2] (by intro b hb; have := x10 b hb; first | simpa using this | (simp; omega)) (by first | exact bdrewN B10 _ | (go_grown; done) | (go_grown <;> exact bdrewN B10 _)) hb11; (try simp at hz11); clear hb11
                obtain ⟨c0_, hc0⟩ : ∃ x, canB ls src co hy m = x := ⟨_, rfl⟩
                rw [hc0] at e4 OHm
                clear hc0
                rcases c0_ with _ | _
                · go_wp2_with fail
                  refine (hasInt_any _ _ _ _ _ (L.out.below (B := w11.heap.size) (by first | exact Below.refl _ _ | (go_grown; done)) (Nat.le_refl _))).mono ?_
                  rintro e w12 ⟨rfl, hb12⟩
                  have B12 := B11.trans (hb12.mono (by omega))
                  clear hb12
                  go_wp2
                  go_roundw
                  case rel => exact ⟨BR.out.trans (B12.mono sr), m + 1 + 1, by go_num, by omega⟩
                  case measure => simp [intOf]; omega
                · go_wp2_with fail
                  refine (hasInt_any _ _ _ _ _ (L.out.below (B := w11.heap.size) (by first | exact Below.refl _ _ | (go_grown; done)) (Nat.le_refl _))).mono ?_
                  rintro e w12 ⟨rfl, hb12⟩
                  have B12 := B11.trans (hb12.mono (by omega))
                  clear hb12
                  go_wp2
                  go_roundw
                  case rel => exact ⟨BR.out.trans (B12.mono sr), m + 1 + 1, by go_num, by omega⟩
                  case measure => simp [intOf]; omega
        · go_wp2
          go_ret
          exact ⟨rfl, B3.out.trans ((BB.out.trans (BR.out.mono BB.out.size)).mono B3.out.size)⟩
    · have e1 := ts_bad h0
      have e3 : (rayE ts ls src co si hy 0 != 0) = true := by simpa using h0
      go_wp2
      go_ret
      exact ⟨rfl, B3.out.trans (Below.mono (show Below w3.heap.size w3 _ by first | exact B8 | (go_grown; done) | exact bdrewN B8 _ | (go_grown <;> exact bdrewN B8 _)) B3.out.size)⟩
end Go.Proofs.Ytkmlcjhlckoajaa
