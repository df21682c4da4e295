/- Rays with a knot; the reference's code and square. -/
import Derived.Test.YtopggkomkfjbfaaGreatRay
import Derived.Deep.Cut
namespace Go.Proofs.YtopggkomkfjbfaaGreat
set_option linter.unusedSimpArgs false
set_option linter.unusedVariables false
open Go.RowKit

theorem rayE_zero {ds ss : List Int} {src co si hy k : Int} (r : RayOk ds ss src co si hy) : rayE ds ss src co si hy 0 = 0 := rayE_ok r (Int.le_refl 0) (by have := r.l0; have := r.l3; omega)
/-- where the ray is sound, a knot is wrong exactly if it is out of range -/
theorem rayE_two {ds ss : List Int} {src co si hy k : Int} (r : RayOk ds ss src co si hy) (h : rayE ds ss src co si hy k ≠ 0) : rayE ds ss src co si hy k = 2 ∧ inB k 0 ((ds.length : Int) - 1) = false := by
  unfold rayE at h ⊢
  rw [r.prof, r.dir] at h ⊢
  simp only [Bool.and_self, if_true] at h ⊢
  split at h
  · exact absurd rfl h
  · rename_i h2
    rw [if_neg h2]
    refine ⟨rfl, ?_⟩
    have : inB src 0 ((ds.length : Int) - 1) = true := by have := r.s0; have := r.s1; have := r.l2; simp [inB]; omega
    simpa [this] using h2
/-- where the ray is not sound, the knot does not matter -/
theorem rayE_bad {ds ss : List Int} {src co si hy k : Int} (h : rayE ds ss src co si hy 0 ≠ 0) : rayE ds ss src co si hy k = rayE ds ss src co si hy 0 := by
  unfold rayE at h ⊢
  split
  · rename_i h1
    rw [if_pos h1] at h
    split at h
    · exact absurd rfl h
    · rename_i h2
      simp only [Bool.and_eq_true] at h1
      have hl := prof_len h1.1
      have h0 : inB 0 0 ((ds.length : Int) - 1) = true := by simp [inB]; omega
      have h3 : inB src 0 ((ds.length : Int) - 1) = false := by simpa [h0] using h2
      simp [h3]
  · rfl
theorem rayOk_zero {ds ss : List Int} {src co si hy : Int} (h : rayE ds ss src co si hy 0 = 0) : RayOk ds ss src co si hy := (ray_ok h).1


theorem genS {P S : World → Prop} {w0 : World} (h0 : S w0) (h : ∀ w, S w → P w) : P w0 := h w0 h0
set_option maxHeartbeats 1000000 in
theorem l05Code_any (A1 A2 : Option Addr) (c1 c2 : Nat) (ds ss : List Int) (src co si hy k : Int) (w : World) (h : ProfAt w A1 c1 A2 c2 ds ss) :
    Calls Tryz.prog 85 #[profV A1 ds.length c1 A2 ss.length c2, .int .i64 src, dirV co si hy, .int .i64 k] w fun e w' => e = .returned (.int .i64 (rayE ds ss src co si hy k)) ∧ Below w.heap.size w w' := by
  have hn := Nat.le_trans h.1.1 h.1.2.1
  have H := Lib.hid h; clear h
  by_cases hp : profB ds ss = true
  · by_cases hd : dirB co si hy = true
    · have he : rayE ds ss src co si hy k = if inB src 0 ((ds.length : Int) - 1) && inB k 0 ((ds.length : Int) - 1) then 0 else 2 := by simp [rayE, hp, hd]
      have HE := Lib.hid he; clear he
      by_cases hs : inB src 0 ((ds.length : Int) - 1) = true
      · by_cases hk : inB k 0 ((ds.length : Int) - 1) = true
        · go_enter Tryz.func85, Tryz.ntmps85
          go_wp2_with (first
            | (go_at_call 48; refine (specIsProfile_any _ _ _ _ _ _ _ (H.out.1.below (B := w.heap.size) (by first | exact Below.refl _ _ | (go_grown; done) | exact bdrewN (by go_grown) _) (Nat.le_refl _)) (H.out.2.below (B := w.heap.size) (by first | exact Below.refl _ _ | (go_grown; done) | exact bdrewN (by go_grown) _) (Nat.le_refl _))).mono ?_; rintro e w1 ⟨rfl, hb1⟩; obtain ⟨B1, hz1, q1, s1, t1, x1, y1, z1⟩ := bkeep (w := w) [w.heap.size, w.heap.size + 1] (by first | (simp; done) | (simp; omega)) (by first | (go_grown; done) | exact bdrewN (by go_grown) _) hb1; (try simp at hz1); clear hb1)
            | (go_at_call 69; refine (specIsDirection_any _ _ _ _).mono ?_; rintro e w2 ⟨rfl, hb2⟩; obtain ⟨B2, hz2, q2, s2, t2, x2, y2, z2⟩ := bkeep (w := w) [w.heap.size, w.heap.size + 1] (by first | (simp; done) | (simp; omega)) (by first | (go_grown; done) | exact bdrewN (by go_grown) _) hb2; (try simp at hz2); clear hb2)
            | (go_at_call 53; refine (l01In_any _ _ _ _).mono ?_; rintro e w' ⟨rfl, rfl⟩))
          go_ret
          exact ⟨ret_int (by rw [HE.out, hs, hk]; rfl), (by first | with_reducible exact B2 | (go_grown; done) | with_reducible exact bdrewN B2 _ | (go_grown <;> first | with_reducible exact bdrewN B2 _ | with_reducible exact B2))⟩
        · have hk' : inB k 0 ((ds.length : Int) - 1) = false := by simpa using hk
          clear hk
          go_enter Tryz.func85, Tryz.ntmps85
          go_wp2_with (first
            | (go_at_call 48; refine (specIsProfile_any _ _ _ _ _ _ _ (H.out.1.below (B := w.heap.size) (by first | exact Below.refl _ _ | (go_grown; done) | exact bdrewN (by go_grown) _) (Nat.le_refl _)) (H.out.2.below (B := w.heap.size) (by first | exact Below.refl _ _ | (go_grown; done) | exact bdrewN (by go_grown) _) (Nat.le_refl _))).mono ?_; rintro e w1 ⟨rfl, hb1⟩; obtain ⟨B1, hz1, q1, s1, t1, x1, y1, z1⟩ := bkeep (w := w) [w.heap.size, w.heap.size + 1] (by first | (simp; done) | (simp; omega)) (by first | (go_grown; done) | exact bdrewN (by go_grown) _) hb1; (try simp at hz1); clear hb1)
            | (go_at_call 69; refine (specIsDirection_any _ _ _ _).mono ?_; rintro e w2 ⟨rfl, hb2⟩; obtain ⟨B2, hz2, q2, s2, t2, x2, y2, z2⟩ := bkeep (w := w) [w.heap.size, w.heap.size + 1] (by first | (simp; done) | (simp; omega)) (by first | (go_grown; done) | exact bdrewN (by go_grown) _) hb2; (try simp at hz2); clear hb2)
            | (go_at_call 53; refine (l01In_any _ _ _ _).mono ?_; rintro e w' ⟨rfl, rfl⟩))
          go_ret
          exact ⟨ret_int (by rw [HE.out, hs, hk']; rfl), (by first | with_reducible exact B2 | (go_grown; done) | with_reducible exact bdrewN B2 _ | (go_grown <;> first | with_reducible exact bdrewN B2 _ | with_reducible exact B2))⟩
      · have hs' : inB src 0 ((ds.length : Int) - 1) = false := by simpa using hs
        clear hs
        go_enter Tryz.func85, Tryz.ntmps85
        go_wp2_with (first
          | (go_at_call 48; refine (specIsProfile_any _ _ _ _ _ _ _ (H.out.1.below (B := w.heap.size) (by first | exact Below.refl _ _ | (go_grown; done) | exact bdrewN (by go_grown) _) (Nat.le_refl _)) (H.out.2.below (B := w.heap.size) (by first | exact Below.refl _ _ | (go_grown; done) | exact bdrewN (by go_grown) _) (Nat.le_refl _))).mono ?_; rintro e w1 ⟨rfl, hb1⟩; obtain ⟨B1, hz1, q1, s1, t1, x1, y1, z1⟩ := bkeep (w := w) [w.heap.size, w.heap.size + 1] (by first | (simp; done) | (simp; omega)) (by first | (go_grown; done) | exact bdrewN (by go_grown) _) hb1; (try simp at hz1); clear hb1)
          | (go_at_call 69; refine (specIsDirection_any _ _ _ _).mono ?_; rintro e w2 ⟨rfl, hb2⟩; obtain ⟨B2, hz2, q2, s2, t2, x2, y2, z2⟩ := bkeep (w := w) [w.heap.size, w.heap.size + 1] (by first | (simp; done) | (simp; omega)) (by first | (go_grown; done) | exact bdrewN (by go_grown) _) hb2; (try simp at hz2); clear hb2)
          | (go_at_call 53; refine (l01In_any _ _ _ _).mono ?_; rintro e w' ⟨rfl, rfl⟩))
        go_ret
        exact ⟨ret_int (by rw [HE.out, hs']; rfl), (by first | with_reducible exact B2 | (go_grown; done) | with_reducible exact bdrewN B2 _ | (go_grown <;> first | with_reducible exact bdrewN B2 _ | with_reducible exact B2))⟩
    · have hd' : dirB co si hy = false := by simpa using hd
      have he : rayE ds ss src co si hy k = 1 := by simp [rayE, hp, hd']
      have HE := Lib.hid he; clear he hd
      go_enter Tryz.func85, Tryz.ntmps85
      go_wp2_with (first
        | (go_at_call 48; refine (specIsProfile_any _ _ _ _ _ _ _ (H.out.1.below (B := w.heap.size) (by first | exact Below.refl _ _ | (go_grown; done) | exact bdrewN (by go_grown) _) (Nat.le_refl _)) (H.out.2.below (B := w.heap.size) (by first | exact Below.refl _ _ | (go_grown; done) | exact bdrewN (by go_grown) _) (Nat.le_refl _))).mono ?_; rintro e w1 ⟨rfl, hb1⟩; obtain ⟨B1, hz1, q1, s1, t1, x1, y1, z1⟩ := bkeep (w := w) [w.heap.size, w.heap.size + 1] (by first | (simp; done) | (simp; omega)) (by first | (go_grown; done) | exact bdrewN (by go_grown) _) hb1; (try simp at hz1); clear hb1)
        | (go_at_call 69; refine (specIsDirection_any _ _ _ _).mono ?_; rintro e w2 ⟨rfl, hb2⟩; obtain ⟨B2, hz2, q2, s2, t2, x2, y2, z2⟩ := bkeep (w := w) [w.heap.size, w.heap.size + 1] (by first | (simp; done) | (simp; omega)) (by first | (go_grown; done) | exact bdrewN (by go_grown) _) hb2; (try simp at hz2); clear hb2))
      go_ret
      exact ⟨ret_int (by rw [HE.out]), (by first | with_reducible exact B2 | (go_grown; done) | with_reducible exact bdrewN B2 _ | (go_grown <;> first | with_reducible exact bdrewN B2 _ | with_reducible exact B2))⟩
  · have hp' : profB ds ss = false := by simpa using hp
    have he : rayE ds ss src co si hy k = 1 := by simp [rayE, hp']
    have HE := Lib.hid he; clear he hp
    go_enter Tryz.func85, Tryz.ntmps85
    go_wp2_with (go_at_call 48; refine (specIsProfile_any _ _ _ _ _ _ _ (H.out.1.below (B := w.heap.size) (by first | exact Below.refl _ _ | (go_grown; done) | exact bdrewN (by go_grown) _) (Nat.le_refl _)) (H.out.2.below (B := w.heap.size) (by first | exact Below.refl _ _ | (go_grown; done) | exact bdrewN (by go_grown) _) (Nat.le_refl _))).mono ?_; rintro e w1 ⟨rfl, hb1⟩; obtain ⟨B1, hz1, q1, s1, t1, x1, y1, z1⟩ := bkeep (w := w) [w.heap.size, w.heap.size + 1] (by first | (simp; done) | (simp; omega)) (by first | (go_grown; done) | exact bdrewN (by go_grown) _) hb1; (try simp at hz1); clear hb1)
    go_ret
    exact ⟨ret_int (by rw [HE.out]), (by first | with_reducible exact B1 | (go_grown; done) | with_reducible exact bdrewN B1 _ | (go_grown <;> first | with_reducible exact bdrewN B1 _ | with_reducible exact B1))⟩
end Go.Proofs.YtopggkomkfjbfaaGreat
