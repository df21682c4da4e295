/- Rays with a knot; the reference's code and square. -/
import Derived.Test.YtkmlcjhlckoajaaRay
import Derived.Deep.Cut
namespace Go.Proofs.Ytkmlcjhlckoajaa
set_option linter.unusedSimpArgs false
set_option linter.unusedVariables false
open Go.RowKit

theorem rayE_zero {ds ss : List Int} {src co si hy k : Int} (r : RayOk ds ss src co si hy) : rayE ds ss src co si hy 0 = 0 := rayE_ok r (Int.le_refl 0) (by have := r.l0; have := r.l3; omega)
/-- where the ray is sound, a knot is wrong exactly if it is out of range -/
theorem rayE_two {ds ss : List Int} {src co si hy k : Int} (r : RayOk ds ss src co si hy) (h : rayE ds ss src co si hy k ≠ 0) : rayE ds ss src co si hy k = 2 ∧ inB k 0 ((ds.length : Int) - 1) = false := by
  unfold rayE at h ⊢
  rw [r.prof, r.dir] at h ⊢
  simp only [Bool.and_self, if_true] at h ⊢
  split at h
  · exact absurd rfl h
  · rename_i h2
    rw [if_neg h2]
    refine ⟨rfl, ?_⟩
    have : inB src 0 ((ds.length : Int) - 1) = true := by have := r.s0; have := r.s1; have := r.l2; simp [inB]; omega
    simpa [this] using h2
/-- where the ray is not sound, the knot does not matter -/
theorem rayE_bad {ds ss : List Int} {src co si hy k : Int} (h : rayE ds ss src co si hy 0 ≠ 0) : rayE ds ss src co si hy k = rayE ds ss src co si hy 0 := by
  unfold rayE at h ⊢
  split
  · rename_i h1
    rw [if_pos h1] at h
    split at h
    · exact absurd rfl h
    · rename_i h2
      simp only [Bool.and_eq_true] at h1
      have hl := prof_len h1.1
      have h0 : inB 0 0 ((ds.length : Int) - 1) = true := by simp [inB]; omega
      have h3 : inB src 0 ((ds.length : Int) - 1) = false := by simpa [h0] using h2
      simp [h3]
  · rfl
theorem rayOk_zero {ds ss : List Int} {src co si hy : Int} (h : rayE ds ss src co si hy 0 = 0) : RayOk ds ss src co si hy := (ray_ok h).1

set_option maxHeartbeats 1000000 in
theorem knotRay_ok (A1 A2 : Option Addr) (c1 c2 : Nat) (ds ss : List Int) (src co si hy k : Int) (w : World) (h : ProfAt w A1 c1 A2 c2 ds ss) (r : RayOk ds ss src co si hy) (h0 : 0 ≤ k) (h1 : k < ss.length) :
    Calls Try.prog 98 #[profV A1 ds.length c1 A2 ss.length c2, .int .i64 src, dirV co si hy, .int .i64 k] w fun e w' => e = .returned (.tuple #[rayV A1 ds.length c1 A2 ss.length c2 src co si hy, .int .i64 0]) ∧ Below w.heap.size w w' := by
  have hn := Nat.le_trans h.1.1 h.1.2.1
  have hk : inB k 0 ((ds.length : Int) - 1) = true := by have := r.l2; simp [inB]; omega
  have H := Lib.hid h; have R := Lib.hid r; clear h r
  go_enter Try.func98, Try.ntmps98
  go_wp2_with (first
    | (go_at_call 107; refine (newRay_ok _ _ _ _ _ _ _ _ _ _ _ ⟨(H.out.1.below (B := w.heap.size) (by first | exact Below.refl _ _ | (go_grown; done) | exact bdrewN (by go_grown) _) (Nat.le_refl _)), (H.out.2.below (B := w.heap.size) (by first | exact Below.refl _ _ | (go_grown; done) | exact bdrewN (by go_grown) _) (Nat.le_refl _))⟩ R.out).mono ?_; rintro e w1 ⟨rfl, hb1⟩; obtain ⟨B1, hz1, q1, s1, t1, x1, y1, z1⟩ := bkeep (w := w) [w.heap.size, w.heap.size + 1, w.heap.size + 2] (by first | (simp; done) | (simp; omega)) (by first | (go_grown; done) | exact bdrewN (by go_grown) _) hb1; (try simp at hz1); clear hb1)
    | (go_at_call 145; refine (isKnot_any _ _ _ _ _ _ _ _ hn).mono ?_; rintro e w2 ⟨rfl, hb2⟩; obtain ⟨B2, hz2, q2, s2, t2, x2, y2, z2⟩ := bkeep (w := w) [w.heap.size, w.heap.size + 1, w.heap.size + 2, w1.heap.size] (by first | (simp; done) | (simp; omega)) (by first | (go_grown; done) | exact bdrewN (by go_grown) _) hb2; (try simp at hz2); clear hb2))
  have c0 : w2.cell? ⟨w.heap.size + 1 + 1, 0, none⟩ = some (.slice none 0 0) := by simp [*, go_sem]
  have c1 : w2.cell? ⟨w.heap.size + 1 + 1, 1, none⟩ = some (.slice none 0 0) := by simp [*, go_sem]
  have c2 : w2.cell? ⟨w.heap.size + 1 + 1, 2, none⟩ = some (.int .i64 0) := by simp [*, go_sem]
  have c3 : w2.cell? ⟨w.heap.size + 1 + 1, 3, none⟩ = some (.int .i64 0) := by simp [*, go_sem]
  have c4 : w2.cell? ⟨w.heap.size + 1 + 1, 4, none⟩ = some (.int .i64 0) := by simp [*, go_sem]
  have c5 : w2.cell? ⟨w.heap.size + 1 + 1, 5, none⟩ = some (.int .i64 0) := by simp [*, go_sem]
  clear q1 q2
  refine bodyPost_ret (by simp [results, Try.results98, go_sem, *] <;> rfl) rfl ?_
  exact ⟨rfl, (by first | with_reducible exact B2 | (go_grown; done) | with_reducible exact bdrewN B2 _ | (go_grown <;> first | with_reducible exact bdrewN B2 _ | with_reducible exact B2))⟩
theorem genS {P S : World → Prop} {w0 : World} (h0 : S w0) (h : ∀ w, S w → P w) : P w0 := h w0 h0
set_option maxHeartbeats 400000 in
theorem knotRay_bad2 (A1 A2 : Option Addr) (c1 c2 : Nat) (ds ss : List Int) (src co si hy k : Int) (w : World) (h : ProfAt w A1 c1 A2 c2 ds ss) (h0 : rayE ds ss src co si hy 0 ≠ 0) :
    Calls Try.prog 98 #[profV A1 ds.length c1 A2 ss.length c2, .int .i64 src, dirV co si hy, .int .i64 k] w fun e w' => e = .returned (.tuple #[zray, .int .i64 (rayE ds ss src co si hy 0)]) ∧ Below w.heap.size w w' := by
    have H := Lib.hid h; have H0 := Lib.hid h0
    have hE : (rayE ds ss src co si hy 0 == 0) = false := by simpa using h0
    clear h h0
    generalize hx : rayE ds ss src co si hy 0 = x at *
    have HX := Lib.hid hx; clear hx
    go_enter Try.func98, Try.ntmps98
    go_wp2_with fail
    refine (newRay_bad _ _ _ _ _ _ _ _ _ _ _ ⟨(H.out.1.below (B := w.heap.size) (by first | exact Below.refl _ _ | (go_grown; done) | exact bdrewN (by go_grown) _) (Nat.le_refl _)), (H.out.2.below (B := w.heap.size) (by first | exact Below.refl _ _ | (go_grown; done) | exact bdrewN (by go_grown) _) (Nat.le_refl _))⟩ (by rw [HX.out]; exact H0.out)).mono ?_
    rw [HX.out]
    rintro e w1 ⟨rfl, hb1⟩; obtain ⟨B1, hz1, q1, s1, t1, x1, y1, z1⟩ := bkeep (w := w) [w.heap.size, w.heap.size + 1, w.heap.size + 2] (by first | (simp; done) | (simp; omega)) (by first | (go_grown; done) | exact bdrewN (by go_grown) _) hb1; (try simp at hz1); clear hb1
    have cc0 : w1.cell? ⟨w.heap.size + 1 + 1, 0, none⟩ = some (.slice none 0 0) := by simp [*, go_sem]
    have cc1 : w1.cell? ⟨w.heap.size + 1 + 1, 1, none⟩ = some (.slice none 0 0) := by simp [*, go_sem]
    have cc2 : w1.cell? ⟨w.heap.size + 1 + 1, 2, none⟩ = some (.int .i64 0) := by simp [*, go_sem]
    have c3 : w1.cell? ⟨w.heap.size + 1 + 1, 3, none⟩ = some (.int .i64 0) := by simp [*, go_sem]
    have c4 : w1.cell? ⟨w.heap.size + 1 + 1, 4, none⟩ = some (.int .i64 0) := by simp [*, go_sem]
    have c5 : w1.cell? ⟨w.heap.size + 1 + 1, 5, none⟩ = some (.int .i64 0) := by simp [*, go_sem]
    have n1 : w.heap.size + 1 + 1 ≠ w1.heap.size := by omega
    have n2 : w1.heap.size ≠ w.heap.size + 1 + 1 := by omega
    have fz0 : w1.frozen? ⟨w.heap.size + 1 + 1, 0, none⟩ = false := by simp [*, go_sem]
    have fz1 : w1.frozen? ⟨w.heap.size + 1 + 1, 1, none⟩ = false := by simp [*, go_sem]
    have fz2 : w1.frozen? ⟨w.heap.size + 1 + 1, 2, none⟩ = false := by simp [*, go_sem]
    have fz3 : w1.frozen? ⟨w.heap.size + 1 + 1, 3, none⟩ = false := by simp [*, go_sem]
    have fz4 : w1.frozen? ⟨w.heap.size + 1 + 1, 4, none⟩ = false := by simp [*, go_sem]
    have fz5 : w1.frozen? ⟨w.heap.size + 1 + 1, 5, none⟩ = false := by simp [*, go_sem]
    have n3 : w.heap.size + 1 + 1 < w1.heap.size := by omega
    go_upto_region 4 with (fail)
    refine genS (S := fun w' => Below w.heap.size w w' ∧ w'.cell? ⟨w1.heap.size, 0, none⟩ = some (.slice none 0 0) ∧ w'.cell? ⟨w1.heap.size, 1, none⟩ = some (.slice none 0 0) ∧ w'.cell? ⟨w1.heap.size, 2, none⟩ = some (.int .i64 0) ∧ w'.cell? ⟨w1.heap.size, 3, none⟩ = some (.int .i64 0) ∧ w'.cell? ⟨w1.heap.size, 4, none⟩ = some (.int .i64 0) ∧ w'.cell? ⟨w1.heap.size, 5, none⟩ = some (.int .i64 0) ∧ w'.cell? ⟨w.heap.size + 1 + 1, 0, none⟩ = some (.slice none 0 0) ∧ w'.cell? ⟨w.heap.size + 1 + 1, 1, none⟩ = some (.slice none 0 0) ∧ w'.cell? ⟨w.heap.size + 1 + 1, 2, none⟩ = some (.int .i64 0) ∧ w'.cell? ⟨w.heap.size + 1 + 1, 3, none⟩ = some (.int .i64 0) ∧ w'.cell? ⟨w.heap.size + 1 + 1, 4, none⟩ = some (.int .i64 0) ∧ w'.cell? ⟨w.heap.size + 1 + 1, 5, none⟩ = some (.int .i64 0) ∧ w'.frozen? ⟨w.heap.size + 1 + 1, 0, none⟩ = false ∧ w'.frozen? ⟨w.heap.size + 1 + 1, 1, none⟩ = false ∧ w'.frozen? ⟨w.heap.size + 1 + 1, 2, none⟩ = false ∧ w'.frozen? ⟨w.heap.size + 1 + 1, 3, none⟩ = false ∧ w'.frozen? ⟨w.heap.size + 1 + 1, 4, none⟩ = false ∧ w'.frozen? ⟨w.heap.size + 1 + 1, 5, none⟩ = false) ⟨by go_grown, by simp [*, go_sem], by simp [*, go_sem], by simp [*, go_sem], by simp [*, go_sem], by simp [*, go_sem], by simp [*, go_sem], by simp [*, go_sem], by simp [*, go_sem], by simp [*, go_sem], by simp [*, go_sem], by simp [*, go_sem], by simp [*, go_sem], by simp [*, go_sem], by simp [*, go_sem], by simp [*, go_sem], by simp [*, go_sem], by simp [*, go_sem], by simp [*, go_sem]⟩ ?_
    clear n1 n2 n3 q1 s1 t1 x1 y1 cc0 cc1 cc2 c3 c4 c5 fz0 fz1 fz2 fz3 fz4 fz5
    rintro w2 ⟨B2, ra0, ra1, ra2, ra3, ra4, ra5, rb0, rb1, rb2, rb3, rb4, rb5, rc0, rc1, rc2, rc3, rc4, rc5⟩
    go_wp2
    refine bodyPost_ret (by simp [results, Try.results98, go_sem, *] <;> rfl) rfl ?_
    exact ⟨rfl, (by first | with_reducible exact B2 | (go_grown; done) | with_reducible exact bdrewN B2 _ | (go_grown <;> first | with_reducible exact bdrewN B2 _ | with_reducible exact B2))⟩
set_option maxHeartbeats 1000000 in
theorem knotRay_bad (A1 A2 : Option Addr) (c1 c2 : Nat) (ds ss : List Int) (src co si hy k : Int) (w : World) (h : ProfAt w A1 c1 A2 c2 ds ss) (hb : rayE ds ss src co si hy k ≠ 0) :
    Calls Try.prog 98 #[profV A1 ds.length c1 A2 ss.length c2, .int .i64 src, dirV co si hy, .int .i64 k] w fun e w' => e = .returned (.tuple #[zray, .int .i64 (rayE ds ss src co si hy k)]) ∧ Below w.heap.size w w' := by
  have hn := Nat.le_trans h.1.1 h.1.2.1
  by_cases h0 : rayE ds ss src co si hy 0 = 0
  · have r := rayOk_zero h0
    obtain ⟨he, hk⟩ := rayE_two r hb
    have R := Lib.hid r; have HE := Lib.hid he; have H := Lib.hid h; clear r he hb h0 h
    go_enter Try.func98, Try.ntmps98
    go_wp2_with (first
      | (go_at_call 107; refine (newRay_ok _ _ _ _ _ _ _ _ _ _ _ ⟨(H.out.1.below (B := w.heap.size) (by first | exact Below.refl _ _ | (go_grown; done) | exact bdrewN (by go_grown) _) (Nat.le_refl _)), (H.out.2.below (B := w.heap.size) (by first | exact Below.refl _ _ | (go_grown; done) | exact bdrewN (by go_grown) _) (Nat.le_refl _))⟩ R.out).mono ?_; rintro e w1 ⟨rfl, hb1⟩; obtain ⟨B1, hz1, q1, s1, t1, x1, y1, z1⟩ := bkeep (w := w) [w.heap.size, w.heap.size + 1, w.heap.size + 2] (by first | (simp; done) | (simp; omega)) (by first | (go_grown; done) | exact bdrewN (by go_grown) _) hb1; (try simp at hz1); clear hb1)
      | (go_at_call 145; refine (isKnot_any _ _ _ _ _ _ _ _ hn).mono ?_; rintro e w2 ⟨rfl, hb2⟩; obtain ⟨B2, hz2, q2, s2, t2, x2, y2, z2⟩ := bkeep (w := w) [w.heap.size, w.heap.size + 1, w.heap.size + 2] (by first | (simp; done) | (simp; omega)) (by first | (go_grown; done) | exact bdrewN (by go_grown) _) hb2; (try simp at hz2); clear hb2))
    have c0 : w2.cell? ⟨w.heap.size + 1 + 1, 0, none⟩ = some (.slice none 0 0) := by simp [*, go_sem]
    have c1 : w2.cell? ⟨w.heap.size + 1 + 1, 1, none⟩ = some (.slice none 0 0) := by simp [*, go_sem]
    have c2 : w2.cell? ⟨w.heap.size + 1 + 1, 2, none⟩ = some (.int .i64 0) := by simp [*, go_sem]
    have c3 : w2.cell? ⟨w.heap.size + 1 + 1, 3, none⟩ = some (.int .i64 0) := by simp [*, go_sem]
    have c4 : w2.cell? ⟨w.heap.size + 1 + 1, 4, none⟩ = some (.int .i64 0) := by simp [*, go_sem]
    have c5 : w2.cell? ⟨w.heap.size + 1 + 1, 5, none⟩ = some (.int .i64 0) := by simp [*, go_sem]
    clear q1 q2
    refine bodyPost_ret (by simp [results, Try.results98, go_sem, *] <;> rfl) rfl ?_
    exact ⟨by rw [HE.out], (by first | with_reducible exact B2 | (go_grown; done) | with_reducible exact bdrewN B2 _ | (go_grown <;> first | with_reducible exact bdrewN B2 _ | with_reducible exact B2))⟩
  · rw [rayE_bad (k := k) h0]
    exact knotRay_bad2 A1 A2 c1 c2 ds ss src co si hy k w h h0

set_option maxHeartbeats 1000000 in
theorem l05Code_any (A1 A2 : Option Addr) (c1 c2 : Nat) (ds ss : List Int) (src co si hy k : Int) (w : World) (h : ProfAt w A1 c1 A2 c2 ds ss) :
    Calls Try.prog 101 #[profV A1 ds.length c1 A2 ss.length c2, .int .i64 src, dirV co si hy, .int .i64 k] w fun e w' => e = .returned (.int .i64 (rayE ds ss src co si hy k)) ∧ Below w.heap.size w w' := by
  have hn := Nat.le_trans h.1.1 h.1.2.1
  have H := Lib.hid h; clear h
  by_cases hp : profB ds ss = true
  · by_cases hd : dirB co si hy = true
    · have he : rayE ds ss src co si hy k = if inB src 0 ((ds.length : Int) - 1) && inB k 0 ((ds.length : Int) - 1) then 0 else 2 := by simp [rayE, hp, hd]
      have HE := Lib.hid he; clear he
      by_cases hs : inB src 0 ((ds.length : Int) - 1) = true
      · by_cases hk : inB k 0 ((ds.length : Int) - 1) = true
        · go_enter Try.func101, Try.ntmps101
          go_wp2_with (first
            | (go_at_call 78; refine (specIsProfile_any _ _ _ _ _ _ _ (H.out.1.below (B := w.heap.size) (by first | exact Below.refl _ _ | (go_grown; done) | exact bdrewN (by go_grown) _) (Nat.le_refl _)) (H.out.2.below (B := w.heap.size) (by first | exact Below.refl _ _ | (go_grown; done) | exact bdrewN (by go_grown) _) (Nat.le_refl _))).mono ?_; rintro e w1 ⟨rfl, hb1⟩; obtain ⟨B1, hz1, q1, s1, t1, x1, y1, z1⟩ := bkeep (w := w) [w.heap.size, w.heap.size + 1] (by first | (simp; done) | (simp; omega)) (by first | (go_grown; done) | exact bdrewN (by go_grown) _) hb1; (try simp at hz1); clear hb1)
            | (go_at_call 152; refine (specIsDirection_any _ _ _ _).mono ?_; rintro e w2 ⟨rfl, hb2⟩; obtain ⟨B2, hz2, q2, s2, t2, x2, y2, z2⟩ := bkeep (w := w) [w.heap.size, w.heap.size + 1] (by first | (simp; done) | (simp; omega)) (by first | (go_grown; done) | exact bdrewN (by go_grown) _) hb2; (try simp at hz2); clear hb2)
            | (go_at_call 132; refine (l01In_any _ _ _ _).mono ?_; rintro e w' ⟨rfl, rfl⟩))
          go_ret
          exact ⟨ret_int (by rw [HE.out, hs, hk]; rfl), (by first | with_reducible exact B2 | (go_grown; done) | with_reducible exact bdrewN B2 _ | (go_grown <;> first | with_reducible exact bdrewN B2 _ | with_reducible exact B2))⟩
        · have hk' : inB k 0 ((ds.length : Int) - 1) = false := by simpa using hk
          clear hk
          go_enter Try.func101, Try.ntmps101
          go_wp2_with (first
            | (go_at_call 78; refine (specIsProfile_any _ _ _ _ _ _ _ (H.out.1.below (B := w.heap.size) (by first | exact Below.refl _ _ | (go_grown; done) | exact bdrewN (by go_grown) _) (Nat.le_refl _)) (H.out.2.below (B := w.heap.size) (by first | exact Below.refl _ _ | (go_grown; done) | exact bdrewN (by go_grown) _) (Nat.le_refl _))).mono ?_; rintro e w1 ⟨rfl, hb1⟩; obtain ⟨B1, hz1, q1, s1, t1, x1, y1, z1⟩ := bkeep (w := w) [w.heap.size, w.heap.size + 1] (by first | (simp; done) | (simp; omega)) (by first | (go_grown; done) | exact bdrewN (by go_grown) _) hb1; (try simp at hz1); clear hb1)
            | (go_at_call 152; refine (specIsDirection_any _ _ _ _).mono ?_; rintro e w2 ⟨rfl, hb2⟩; obtain ⟨B2, hz2, q2, s2, t2, x2, y2, z2⟩ := bkeep (w := w) [w.heap.size, w.heap.size + 1] (by first | (simp; done) | (simp; omega)) (by first | (go_grown; done) | exact bdrewN (by go_grown) _) hb2; (try simp at hz2); clear hb2)
            | (go_at_call 132; refine (l01In_any _ _ _ _).mono ?_; rintro e w' ⟨rfl, rfl⟩))
          go_ret
          exact ⟨ret_int (by rw [HE.out, hs, hk']; rfl), (by first | with_reducible exact B2 | (go_grown; done) | with_reducible exact bdrewN B2 _ | (go_grown <;> first | with_reducible exact bdrewN B2 _ | with_reducible exact B2))⟩
      · have hs' : inB src 0 ((ds.length : Int) - 1) = false := by simpa using hs
        clear hs
        go_enter Try.func101, Try.ntmps101
        go_wp2_with (first
          | (go_at_call 78; refine (specIsProfile_any _ _ _ _ _ _ _ (H.out.1.below (B := w.heap.size) (by first | exact Below.refl _ _ | (go_grown; done) | exact bdrewN (by go_grown) _) (Nat.le_refl _)) (H.out.2.below (B := w.heap.size) (by first | exact Below.refl _ _ | (go_grown; done) | exact bdrewN (by go_grown) _) (Nat.le_refl _))).mono ?_; rintro e w1 ⟨rfl, hb1⟩; obtain ⟨B1, hz1, q1, s1, t1, x1, y1, z1⟩ := bkeep (w := w) [w.heap.size, w.heap.size + 1] (by first | (simp; done) | (simp; omega)) (by first | (go_grown; done) | exact bdrewN (by go_grown) _) hb1; (try simp at hz1); clear hb1)
          | (go_at_call 152; refine (specIsDirection_any _ _ _ _).mono ?_; rintro e w2 ⟨rfl, hb2⟩; obtain ⟨B2, hz2, q2, s2, t2, x2, y2, z2⟩ := bkeep (w := w) [w.heap.size, w.heap.size + 1] (by first | (simp; done) | (simp; omega)) (by first | (go_grown; done) | exact bdrewN (by go_grown) _) hb2; (try simp at hz2); clear hb2)
          | (go_at_call 132; refine (l01In_any _ _ _ _).mono ?_; rintro e w' ⟨rfl, rfl⟩))
        go_ret
        exact ⟨ret_int (by rw [HE.out, hs']; rfl), (by first | with_reducible exact B2 | (go_grown; done) | with_reducible exact bdrewN B2 _ | (go_grown <;> first | with_reducible exact bdrewN B2 _ | with_reducible exact B2))⟩
    · have hd' : dirB co si hy = false := by simpa using hd
      have he : rayE ds ss src co si hy k = 1 := by simp [rayE, hp, hd']
      have HE := Lib.hid he; clear he hd
      go_enter Try.func101, Try.ntmps101
      go_wp2_with (first
        | (go_at_call 78; refine (specIsProfile_any _ _ _ _ _ _ _ (H.out.1.below (B := w.heap.size) (by first | exact Below.refl _ _ | (go_grown; done) | exact bdrewN (by go_grown) _) (Nat.le_refl _)) (H.out.2.below (B := w.heap.size) (by first | exact Below.refl _ _ | (go_grown; done) | exact bdrewN (by go_grown) _) (Nat.le_refl _))).mono ?_; rintro e w1 ⟨rfl, hb1⟩; obtain ⟨B1, hz1, q1, s1, t1, x1, y1, z1⟩ := bkeep (w := w) [w.heap.size, w.heap.size + 1] (by first | (simp; done) | (simp; omega)) (by first | (go_grown; done) | exact bdrewN (by go_grown) _) hb1; (try simp at hz1); clear hb1)
        | (go_at_call 152; refine (specIsDirection_any _ _ _ _).mono ?_; rintro e w2 ⟨rfl, hb2⟩; obtain ⟨B2, hz2, q2, s2, t2, x2, y2, z2⟩ := bkeep (w := w) [w.heap.size, w.heap.size + 1] (by first | (simp; done) | (simp; omega)) (by first | (go_grown; done) | exact bdrewN (by go_grown) _) hb2; (try simp at hz2); clear hb2))
      go_ret
      exact ⟨ret_int (by rw [HE.out]), (by first | with_reducible exact B2 | (go_grown; done) | with_reducible exact bdrewN B2 _ | (go_grown <;> first | with_reducible exact bdrewN B2 _ | with_reducible exact B2))⟩
  · have hp' : profB ds ss = false := by simpa using hp
    have he : rayE ds ss src co si hy k = 1 := by simp [rayE, hp']
    have HE := Lib.hid he; clear he hp
    go_enter Try.func101, Try.ntmps101
    go_wp2_with (go_at_call 78; refine (specIsProfile_any _ _ _ _ _ _ _ (H.out.1.below (B := w.heap.size) (by first | exact Below.refl _ _ | (go_grown; done) | exact bdrewN (by go_grown) _) (Nat.le_refl _)) (H.out.2.below (B := w.heap.size) (by first | exact Below.refl _ _ | (go_grown; done) | exact bdrewN (by go_grown) _) (Nat.le_refl _))).mono ?_; rintro e w1 ⟨rfl, hb1⟩; obtain ⟨B1, hz1, q1, s1, t1, x1, y1, z1⟩ := bkeep (w := w) [w.heap.size, w.heap.size + 1] (by first | (simp; done) | (simp; omega)) (by first | (go_grown; done) | exact bdrewN (by go_grown) _) hb1; (try simp at hz1); clear hb1)
    go_ret
    exact ⟨ret_int (by rw [HE.out]), (by first | with_reducible exact B1 | (go_grown; done) | with_reducible exact bdrewN B1 _ | (go_grown <;> first | with_reducible exact bdrewN B1 _ | with_reducible exact B1))⟩
end Go.Proofs.Ytkmlcjhlckoajaa
