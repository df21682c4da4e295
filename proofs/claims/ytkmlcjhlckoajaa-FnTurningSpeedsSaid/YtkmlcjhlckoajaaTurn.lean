/- The turning speed, by the program and by the reference. -/
import Derived.Test.YtkmlcjhlckoajaaState
import Derived.Test.YtkmlcjhlckoajaaRatio
import Derived.Test.YtkmlcjhlckoajaaCut
namespace Go.Proofs.Ytkmlcjhlckoajaa
set_option linter.unusedSimpArgs false
set_option linter.unusedVariables false
open Go.RowKit

@[irreducible] def tsN (ds ss : List Int) (src co si hy : Int) : Int := if rayE ds ss src co si hy 0 = 0 then ratN (hy * spd ss src) co else 0
@[irreducible] def tsD (ds ss : List Int) (src co si hy : Int) : Int := if rayE ds ss src co si hy 0 = 0 then ratD (hy * spd ss src) co else 0
@[irreducible] def tsC (ds ss : List Int) (src co si hy : Int) : Int := if rayE ds ss src co si hy 0 = 0 then ratC (hy * spd ss src) co 3 else rayE ds ss src co si hy 0

set_option maxHeartbeats 1000000 in
theorem implTurningSpeed_any (A1 A2 : Option Addr) (c1 c2 : Nat) (ds ss : List Int) (src co si hy : Int) (w : World) (h : ProfAt w A1 c1 A2 c2 ds ss) :
    Calls Try.prog 37 #[profV A1 ds.length c1 A2 ss.length c2, .int .i64 src, dirV co si hy] w fun e w' => e = .returned (.tuple #[ratV (tsN ds ss src co si hy) (tsD ds ss src co si hy), .int .i64 (tsC ds ss src co si hy)]) ∧ Below w.heap.size w w' := by
  by_cases h0 : rayE ds ss src co si hy 0 = 0
  · have e1 : tsN ds ss src co si hy = ratN (hy * spd ss src) co := by unfold tsN; rw [if_pos h0]
    have e2 : tsD ds ss src co si hy = ratD (hy * spd ss src) co := by unfold tsD; rw [if_pos h0]
    have e3 : tsC ds ss src co si hy = ratC (hy * spd ss src) co 3 := by unfold tsC; rw [if_pos h0]
    have r := rayOk_zero h0
    obtain ⟨a0, a1⟩ := r.whole
    have co0 := r.c0
    have co1 : co ≤ 1000000000 := by have := r.c1; have := r.h1; omega
    have H := Lib.hid h; have E1 := Lib.hid e1; have E2 := Lib.hid e2; have E3 := Lib.hid e3; have R := Lib.hid r; clear h e1 e2 e3 h0 r
    go_enter Try.func37, Try.ntmps37
    go_wp2_with (go_at_call 107; refine (newRay_ok _ _ _ _ _ _ _ _ _ _ _ ⟨(H.out.1.below (B := w.heap.size) (by first | exact Below.refl _ _ | (go_grown; done) | exact bdrewN (by go_grown) _) (Nat.le_refl _)), (H.out.2.below (B := w.heap.size) (by first | exact Below.refl _ _ | (go_grown; done) | exact bdrewN (by go_grown) _) (Nat.le_refl _))⟩ R.out).mono ?_; rintro e w1 ⟨rfl, hb1⟩; obtain ⟨B1, hz1, q1, s1, t1, x1, y1, z1⟩ := bkeep (w := w) [w.heap.size, w.heap.size + 1, w.heap.size + 2] (by first | (simp; done) | (simp; omega)) (by first | (go_grown; done) | exact bdrewN (by go_grown) _) hb1; (try simp at hz1); clear hb1)
    have f0 : w1.cell? ⟨w.heap.size + 1, 0, none⟩ = some (.int .i64 co) := by simp [*, go_sem]
    have p0 : w1.cell? ⟨w.heap.size + 1 + 1, 0, none⟩ = some (.int .i64 0) := by simp [*, go_sem]
    have p1 : w1.cell? ⟨w.heap.size + 1 + 1, 1, none⟩ = some (.int .i64 0) := by simp [*, go_sem]
    have p2 : ∀ o, w1.frozen? ⟨w.heap.size + 1 + 1, o, none⟩ = false := fun o => by simp [*, go_sem]
    have nn1 : w.heap.size + 1 < w1.heap.size := x1 _ (by simp)
    have nn2 : w.heap.size + 1 + 1 < w1.heap.size := x1 _ (by simp)
    have nn3 : w.heap.size + 1 ≠ w1.heap.size := Nat.ne_of_lt nn1
    have nn4 : w.heap.size + 1 + 1 ≠ w1.heap.size := Nat.ne_of_lt nn2
    refine genS (S := fun w' => Below w.heap.size w w' ∧ w1.heap.size < w'.heap.size ∧ w'.cell? ⟨w.heap.size + 1, 0, none⟩ = some (.int .i64 co) ∧ w'.cell? ⟨w.heap.size + 1 + 1, 0, none⟩ = some (.int .i64 0) ∧ w'.cell? ⟨w.heap.size + 1 + 1, 1, none⟩ = some (.int .i64 0) ∧ (∀ o, w'.frozen? ⟨w.heap.size + 1 + 1, o, none⟩ = false) ∧ w'.cell? ⟨w1.heap.size, 0, none⟩ = some (.slice A1 ds.length c1) ∧ w'.cell? ⟨w1.heap.size, 1, none⟩ = some (.slice A2 ss.length c2) ∧ w'.cell? ⟨w1.heap.size, 2, none⟩ = some (.int .i64 src) ∧ w'.cell? ⟨w1.heap.size, 3, none⟩ = some (.int .i64 co) ∧ w'.cell? ⟨w1.heap.size, 4, none⟩ = some (.int .i64 si) ∧ w'.cell? ⟨w1.heap.size, 5, none⟩ = some (.int .i64 hy)) ⟨(by first | with_reducible exact B1 | (go_grown; done) | with_reducible exact bdrewN B1 _ | (go_grown <;> first | with_reducible exact bdrewN B1 _ | with_reducible exact B1)), by simp, by simp [*, go_sem], by simp [*, go_sem], by simp [*, go_sem], fun o => by simp [*, go_sem], by simp [*, go_sem], by simp [*, go_sem], by simp [*, go_sem], by simp [*, go_sem], by simp [*, go_sem], by simp [*, go_sem]⟩ ?_
    rintro w2 ⟨B2, y2, r0, r1, r2, r3, r4, r5, r6, r7, r8, r9⟩
    clear q1 s1 t1 x1 y1 f0 p0 p1 p2
    have z2 : w.heap.size ≤ w2.heap.size := B2.size
    go_region_held3 (fun w' => w'.cell? ⟨w.heap.size + 1, 0, none⟩ = some (.int .i64 co) ∧ w'.cell? ⟨w1.heap.size, 0, none⟩ = some (.slice A1 ds.length c1) ∧ w'.cell? ⟨w1.heap.size, 1, none⟩ = some (.slice A2 ss.length c2) ∧ w'.cell? ⟨w1.heap.size, 2, none⟩ = some (.int .i64 src) ∧ w'.cell? ⟨w1.heap.size, 3, none⟩ = some (.int .i64 co) ∧ w'.cell? ⟨w1.heap.size, 4, none⟩ = some (.int .i64 si) ∧ w'.cell? ⟨w1.heap.size, 5, none⟩ = some (.int .i64 hy)) (first | (go_keep; done) | (simp [*, go_sem]; done))
      (first
        | (go_at_call 90; refine (whole_any _ _ _ _ _ _ _ _ _ _ _ ((H.out.2.below B2 (Nat.le_refl _)).below (B := w2.heap.size) (by first | exact Below.refl _ _ | (go_grown; done) | exact bdrewN (by go_grown) _) (Nat.le_refl _)) R.out.s0 R.out.s1 ⟨a0, a1⟩).mono ?_; rintro e w3 ⟨rfl, hb3⟩; obtain ⟨B3, hz3, q3, s3, t3, x3, y3, z3⟩ := bkeep (w := w) [w.heap.size + 1, w.heap.size + 2, w1.heap.size] (by first | (simp; done) | (simp; omega)) (by first | (go_grown; done) | exact bdrewN (by go_grown) _) hb3; (try simp at hz3); clear hb3)
        | (go_at_call 83; refine (implRatio_any _ _ _ _ co0 co1 (by omega) (by omega)).mono ?_; rintro e w4 ⟨rfl, hb4⟩; obtain ⟨B4, hz4, q4, s4, t4, x4, y4, z4⟩ := bkeep (w := w) [w.heap.size + 1, w.heap.size + 2, w1.heap.size] (by first | (simp; done) | (simp; omega)) (by first | (go_grown; done) | exact bdrewN (by go_grown) _) hb4; (try simp at hz4); clear hb4))
    go_wp2
    refine bodyPost_ret (by simp [results, Try.results37, go_sem, *] <;> rfl) rfl ?_
    exact ⟨by rw [E1.out, E2.out, E3.out], by first | exact (by first | with_reducible exact B4 | (go_grown; done) | with_reducible exact bdrewN B4 _ | (go_grown <;> first | with_reducible exact bdrewN B4 _ | with_reducible exact B4)) | exact bdrewN B4 _⟩
  · have e1 : tsN ds ss src co si hy = 0 := by unfold tsN; rw [if_neg h0]
    have e2 : tsD ds ss src co si hy = 0 := by unfold tsD; rw [if_neg h0]
    have e3 : tsC ds ss src co si hy = rayE ds ss src co si hy 0 := by unfold tsC; rw [if_neg h0]
    have hE : (rayE ds ss src co si hy 0 != 0) = true := by simpa using h0
    have H := Lib.hid h; have E1 := Lib.hid e1; have E2 := Lib.hid e2; have E3 := Lib.hid e3; have H0 := Lib.hid h0; clear h e1 e2 e3 h0
    go_enter Try.func37, Try.ntmps37
    go_wp2_with (go_at_call 107; refine (newRay_bad _ _ _ _ _ _ _ _ _ _ _ ⟨(H.out.1.below (B := w.heap.size) (by first | exact Below.refl _ _ | (go_grown; done) | exact bdrewN (by go_grown) _) (Nat.le_refl _)), (H.out.2.below (B := w.heap.size) (by first | exact Below.refl _ _ | (go_grown; done) | exact bdrewN (by go_grown) _) (Nat.le_refl _))⟩ H0.out).mono ?_; rintro e w1 ⟨rfl, hb1⟩; obtain ⟨B1, hz1, q1, s1, t1, x1, y1, z1⟩ := bkeep (w := w) [w.heap.size, w.heap.size + 1, w.heap.size + 2] (by first | (simp; done) | (simp; omega)) (by first | (go_grown; done) | exact bdrewN (by go_grown) _) hb1; (try simp at hz1); clear hb1)
    have c0 : w1.cell? ⟨w.heap.size + 1 + 1, 0, none⟩ = some (.int .i64 0) := by simp [*, go_sem]
    have c1 : w1.cell? ⟨w.heap.size + 1 + 1, 1, none⟩ = some (.int .i64 0) := by simp [*, go_sem]
    clear q1
    refine bodyPost_ret (by simp [results, Try.results37, go_sem, *] <;> rfl) rfl ?_
    exact ⟨by rw [E1.out, E2.out, E3.out], (by first | with_reducible exact B1 | (go_grown; done) | with_reducible exact bdrewN B1 _ | (go_grown <;> first | with_reducible exact bdrewN B1 _ | with_reducible exact B1))⟩
set_option maxHeartbeats 1000000 in
theorem specTurningSpeed_any (A1 A2 : Option Addr) (c1 c2 : Nat) (ds ss : List Int) (src co si hy : Int) (w : World) (h : ProfAt w A1 c1 A2 c2 ds ss) :
    Calls Try.prog 38 #[profV A1 ds.length c1 A2 ss.length c2, .int .i64 src, dirV co si hy] w fun e w' => e = .returned (.tuple #[ratV (tsN ds ss src co si hy) (tsD ds ss src co si hy), .int .i64 (tsC ds ss src co si hy)]) ∧ Below w.heap.size w w' := by
  by_cases h0 : rayE ds ss src co si hy 0 = 0
  · have e1 : tsN ds ss src co si hy = ratN (hy * spd ss src) co := by unfold tsN; rw [if_pos h0]
    have e2 : tsD ds ss src co si hy = ratD (hy * spd ss src) co := by unfold tsD; rw [if_pos h0]
    have e3 : tsC ds ss src co si hy = ratC (hy * spd ss src) co 3 := by unfold tsC; rw [if_pos h0]
    have hE : (rayE ds ss src co si hy 0 != 0) = false := by rw [h0]; rfl
    have r := rayOk_zero h0
    obtain ⟨a0, a1⟩ := r.whole
    have co0 := r.c0
    have co1 : co ≤ 1000000000 := by have := r.c1; have := r.h1; omega
    have s0 := r.s0; have s1 := r.s1
    obtain ⟨m, rfl⟩ := Int.eq_ofNat_of_zero_le s0
    obtain ⟨b2, o2, rfl, hb2, q⟩ := h.2.spd (by omega)
    have qm := q m (by omega)
    obtain ⟨P, hP⟩ : ∃ P, hy * spd ss m = P := ⟨_, rfl⟩
    rw [hP] at a0 a1 e1 e2 e3
    have hk : (tsN ds ss m co si hy = ratN P co ∧ tsD ds ss m co si hy = ratD P co ∧ tsC ds ss m co si hy = 0 ∧ ratC P co 2 = 0) ∨ (tsN ds ss m co si hy = 0 ∧ tsD ds ss m co si hy = 0 ∧ tsC ds ss m co si hy = 3 ∧ ratC P co 2 = 2) := by
      rw [e1, e2, e3]
      unfold ratN ratD ratC
      by_cases g : ratOk P co = true
      · left; simp [g]
      · right; simp [g]
    have H := Lib.hid h; have R := Lib.hid r; have HP := Lib.hid hP; clear h e1 e2 e3 h0 r q hP
    rcases hk with ⟨k1, k2, k3, k4⟩ | ⟨k1, k2, k3, k4⟩
    all_goals
      have K1 := Lib.hid k1; have K2 := Lib.hid k2; have K3 := Lib.hid k3; have K4 := Lib.hid k4; clear k1 k2 k3 k4
      go_enter Try.func38, Try.ntmps38
      go_wp2_with (go_at_call 101; refine (l05Code_any _ _ _ _ _ _ _ _ _ _ _ _ ⟨(H.out.1.below (B := w.heap.size) (by first | exact Below.refl _ _ | (go_grown; done) | exact bdrewN (by go_grown) _) (Nat.le_refl _)), (H.out.2.below (B := w.heap.size) (by first | exact Below.refl _ _ | (go_grown; done) | exact bdrewN (by go_grown) _) (Nat.le_refl _))⟩).mono ?_; rintro e w1 ⟨rfl, hb1⟩; obtain ⟨B1, hz1, q1, s1, t1, x1, y1, z1⟩ := bkeep (w := w) [w.heap.size, w.heap.size + 1, w.heap.size + 2] (by first | (simp; done) | (simp; omega)) (by first | (go_grown; done) | exact bdrewN (by go_grown) _) hb1; (try simp at hz1); clear hb1)
      refine genS (S := fun w' => Below w.heap.size w w' ∧ w.heap.size + 1 + 1 < w'.heap.size ∧ w'.cell? ⟨w.heap.size + 1, 0, none⟩ = some (.int .i64 co) ∧ w'.cell? ⟨w.heap.size + 1, 2, none⟩ = some (.int .i64 hy) ∧ w'.cell? ⟨w.heap.size + 1 + 1, 0, none⟩ = some (.int .i64 0) ∧ w'.cell? ⟨w.heap.size + 1 + 1, 1, none⟩ = some (.int .i64 0) ∧ (∀ o, w'.frozen? ⟨w.heap.size + 1 + 1, o, none⟩ = false) ∧ w'.cell? ⟨w.heap.size, 1, none⟩ = some (.slice (some ⟨b2, o2, none⟩) ss.length c2)) ⟨(by first | with_reducible exact B1 | (go_grown; done) | with_reducible exact bdrewN B1 _ | (go_grown <;> first | with_reducible exact bdrewN B1 _ | with_reducible exact B1)), x1 _ (by simp), by simp [*, go_sem], by simp [*, go_sem], by simp [*, go_sem], by simp [*, go_sem], fun o => by simp [*, go_sem], by simp [*, go_sem]⟩ ?_
      rintro w2 ⟨B2, y2, r0, r1, r2, r3, r4, r5⟩
      have tm := (B2.cell (p := ⟨b2, o2 + m, none⟩) hb2).trans qm
      clear q1 s1 t1 x1 y1
      have z2 : w.heap.size ≤ w2.heap.size := B2.size
      have HB2 := Lib.hid B2
      go_cut [9, 10] (fun p c wx => ∃ rb, p = .pointer (some ⟨rb, 0, none⟩) ∧ c = .int .i64 (ratC P co 2) ∧ Below w2.heap.size w2 wx ∧ w2.heap.size ≤ rb ∧ rb < wx.heap.size ∧ wx.cell? ⟨rb, 0, none⟩ = some (.int .i64 (ratN P co)) ∧ wx.cell? ⟨rb, 1, none⟩ = some (.int .i64 (ratD P co)))
      case first =>
        have n2_0 : w.heap.size ≠ w2.heap.size := (by omega)
        have m2_0 : w2.heap.size ≠ w.heap.size := (by omega)
        have n2_1 : w.heap.size + 1 ≠ w2.heap.size := (by omega)
        have m2_1 : w2.heap.size ≠ w.heap.size + 1 := (by omega)
        have n2_2 : b2 ≠ w2.heap.size := (by omega)
        have m2_2 : w2.heap.size ≠ b2 := (by omega)
        have W1 : IntKind.i64.wrap (hy * spd ss m) = P := by rw [HP.out]; exact IntWalk.i64_in _ (by omega)
        go_region_held3 (fun w' => w'.cell? ⟨w.heap.size + 1, 0, none⟩ = some (.int .i64 co) ∧ w'.cell? ⟨w.heap.size + 1, 2, none⟩ = some (.int .i64 hy) ∧ w'.cell? ⟨w.heap.size, 1, none⟩ = some (.slice (some ⟨b2, o2, none⟩) ss.length c2) ∧ w'.cell? ⟨b2, o2 + m, none⟩ = some (.int .i64 (spd ss m))) (first | (go_keep; done) | (simp [*, go_sem]; done))
          (first
            | (go_at_call 85; refine (l03Make_any _ _ _ co0 co1 (by omega) (by omega)).mono ?_; rintro e w3 ⟨rfl, hb3⟩; refine ltcheck (c := w2.heap.size) hb3 ?_ (fun hg => ?_); (focus (first | omega | (simp; done) | (simp; omega))); have L3 := Lib.hid (Below.trans (a := w2) (B := w2.heap.size) (by go_grown) (hb3.mono (by first | omega | (simp; done) | (simp; omega)))); obtain ⟨B3, hz3, q3, s3, t3, x3, y3, z3⟩ := bkeep (w := w) [w.heap.size, w.heap.size + 1, w.heap.size + 2, w2.heap.size] (by first | (simp; done) | (simp; omega)) (by first | (go_grown; done) | exact bdrewN (by go_grown) _) hb3; (try simp at hz3); clear hb3; have n3_0 : w.heap.size ≠ w3.heap.size := (by omega); have m3_0 : w3.heap.size ≠ w.heap.size := (by omega); have n3_1 : w.heap.size + 1 ≠ w3.heap.size := (by omega); have m3_1 : w3.heap.size ≠ w.heap.size + 1 := (by omega); have n3_2 : b2 ≠ w3.heap.size := (by omega); have m3_2 : w3.heap.size ≠ b2 := (by omega))
            | (go_at_call 85; refine (l03Make_any _ _ _ co0 co1 (by omega) (by omega)).mono ?_; rintro e w3 ⟨rfl, hb3⟩; have L3 := Lib.hid (Below.trans (a := w2) (B := w2.heap.size) (by first | exact Below.refl _ _ | go_grown) (hb3.mono (by first | omega | (simp; done) | (simp; omega)))); obtain ⟨B3, hz3, q3, s3, t3, x3, y3, z3⟩ := bkeep (w := w) [w.heap.size, w.heap.size + 1, w.heap.size + 2] (by first | (simp; done) | (simp; omega)) (by first | (go_grown; done) | exact bdrewN (by go_grown) _) hb3; (try simp at hz3); clear hb3; have n3_0 : w.heap.size ≠ w3.heap.size := (by omega); have m3_0 : w3.heap.size ≠ w.heap.size := (by omega); have n3_1 : w.heap.size + 1 ≠ w3.heap.size := (by omega); have m3_1 : w3.heap.size ≠ w.heap.size + 1 := (by omega); have n3_2 : b2 ≠ w3.heap.size := (by omega); have m3_2 : w3.heap.size ≠ b2 := (by omega)))
        all_goals go_wp2_with fail
        all_goals go_meet
        all_goals exact ⟨_, rfl, rfl, by first | exact L3.out | (go_grown; exact L3.out) | (go_grown; done), by first | omega | (simp; omega), by first | omega | (simp; done) | (simp; omega), by simp [*, go_sem], by simp [*, go_sem]⟩
      case rest =>
        obtain ⟨rb, rfl, rfl, hb3, lo, hi, d0, d1⟩ := hcut
        simp only [K4.out]
        obtain ⟨B3, hz3, q3, s3, t3, x3, y3, z3⟩ := bkeep (w := w) [w.heap.size, w.heap.size + 1, w.heap.size + 2] (by first | (simp; done) | (simp; omega)) (by first | (go_grown; done) | exact bdrewN (by go_grown) _) hb3; (try simp at hz3); clear hb3
        have c0 : wc.cell? ⟨w.heap.size + 1 + 1, 0, none⟩ = some (.int .i64 0) := by simp [*, go_sem]
        have c1 : wc.cell? ⟨w.heap.size + 1 + 1, 1, none⟩ = some (.int .i64 0) := by simp [*, go_sem]
        have f2 : ∀ o, wc.frozen? ⟨w.heap.size + 1 + 1, o, none⟩ = false := fun o => by simp [*, go_sem]
        clear q3 s3
        go_wp2
        refine bodyPost_ret (by simp [results, Try.results38, go_sem, *] <;> rfl) rfl ?_
        exact ⟨by rw [K1.out, K2.out, K3.out], (by first | with_reducible exact B3 | (go_grown; done) | with_reducible exact bdrewN B3 _ | (go_grown <;> first | with_reducible exact bdrewN B3 _ | with_reducible exact B3))⟩
  · have e1 : tsN ds ss src co si hy = 0 := by unfold tsN; rw [if_neg h0]
    have e2 : tsD ds ss src co si hy = 0 := by unfold tsD; rw [if_neg h0]
    have e3 : tsC ds ss src co si hy = rayE ds ss src co si hy 0 := by unfold tsC; rw [if_neg h0]
    have hE : (rayE ds ss src co si hy 0 != 0) = true := by simpa using h0
    have H := Lib.hid h; have E1 := Lib.hid e1; have E2 := Lib.hid e2; have E3 := Lib.hid e3; have H0 := Lib.hid h0; clear h e1 e2 e3 h0
    go_enter Try.func38, Try.ntmps38
    go_wp2_with (go_at_call 101; refine (l05Code_any _ _ _ _ _ _ _ _ _ _ _ _ ⟨(H.out.1.below (B := w.heap.size) (by first | exact Below.refl _ _ | (go_grown; done) | exact bdrewN (by go_grown) _) (Nat.le_refl _)), (H.out.2.below (B := w.heap.size) (by first | exact Below.refl _ _ | (go_grown; done) | exact bdrewN (by go_grown) _) (Nat.le_refl _))⟩).mono ?_; rintro e w1 ⟨rfl, hb1⟩; obtain ⟨B1, hz1, q1, s1, t1, x1, y1, z1⟩ := bkeep (w := w) [w.heap.size, w.heap.size + 1, w.heap.size + 2] (by first | (simp; done) | (simp; omega)) (by first | (go_grown; done) | exact bdrewN (by go_grown) _) hb1; (try simp at hz1); clear hb1)
    have c0 : w1.cell? ⟨w.heap.size + 1 + 1, 0, none⟩ = some (.int .i64 0) := by simp [*, go_sem]
    have c1 : w1.cell? ⟨w.heap.size + 1 + 1, 1, none⟩ = some (.int .i64 0) := by simp [*, go_sem]
    clear q1
    refine bodyPost_ret (by simp [results, Try.results38, go_sem, *] <;> rfl) rfl ?_
    exact ⟨by rw [E1.out, E2.out, E3.out], (by first | with_reducible exact B1 | (go_grown; done) | with_reducible exact bdrewN B1 _ | (go_grown <;> first | with_reducible exact bdrewN B1 _ | with_reducible exact B1))⟩
end Go.Proofs.Ytkmlcjhlckoajaa
