/- The range of a cell, by the program and by the reference. -/
import Derived.Test.YtopggkomkfjbfaaGreatNewCell
import Derived.Test.YtopggkomkfjbfaaGreatCell1
namespace Go.Proofs.YtopggkomkfjbfaaGreat
set_option linter.unusedSimpArgs false
set_option linter.unusedVariables false
open Go.RowKit

@[irreducible] def l8E (ds ss : List Int) (src co si hy co' si' hy' n : Int) : Int := if ceE ds ss src co si hy co' si' hy' n = 0 then (if alB si si' then 0 else 5) else ceE ds ss src co si hy co' si' hy' n
theorem cr_bad {ds ss : List Int} {src co si hy co' si' hy' n : Int} (h : ceE ds ss src co si hy co' si' hy' n ≠ 0) : crE ds ss src co si hy co' si' hy' n = ceE ds ss src co si hy co' si' hy' n ∧ crL ds ss src co si hy co' si' hy' n = 0 ∧ crH ds ss src co si hy co' si' hy' n = 0 ∧ l8E ds ss src co si hy co' si' hy' n = ceE ds ss src co si hy co' si' hy' n := by
  have e : crE ds ss src co si hy co' si' hy' n = ceE ds ss src co si hy co' si' hy' n := by unfold crE; rw [if_neg h]
  refine ⟨e, ?_, ?_, ?_⟩
  · unfold crL; rw [e, if_neg h]
  · unfold crH; rw [e, if_neg h]
  · unfold l8E; rw [if_neg h]
theorem cr_unlike {ds ss : List Int} {src co si hy co' si' hy' n : Int} (h : ceE ds ss src co si hy co' si' hy' n = 0) (ha : alB si si' = false) : crE ds ss src co si hy co' si' hy' n = 5 ∧ crL ds ss src co si hy co' si' hy' n = 0 ∧ crH ds ss src co si hy co' si' hy' n = 0 ∧ l8E ds ss src co si hy co' si' hy' n = 5 := by
  have e : crE ds ss src co si hy co' si' hy' n = 5 := by unfold crE; rw [if_pos h, ha]; rfl
  refine ⟨e, ?_, ?_, ?_⟩
  · unfold crL; rw [e]; rfl
  · unfold crH; rw [e]; rfl
  · unfold l8E; rw [if_pos h, ha]; rfl
theorem l8_ok {ds ss : List Int} {src co si hy co' si' hy' n : Int} (h : ceE ds ss src co si hy co' si' hy' n = 0) (ha : alB si si' = true) : l8E ds ss src co si hy co' si' hy' n = 0 := by unfold l8E; rw [if_pos h, ha]; rfl
theorem cr_part {ds ss : List Int} {src co si hy co' si' hy' : Int} {m : Nat} (h : ceE ds ss src co si hy co' si' hy' m = 0) (ha : alB si si' = true) (hs : sameN ds ss src co si hy co' si' hy' m = false) : crE ds ss src co si hy co' si' hy' m = 5 ∧ crL ds ss src co si hy co' si' hy' m = 0 ∧ crH ds ss src co si hy co' si' hy' m = 0 := by
  have e : crE ds ss src co si hy co' si' hy' m = 5 := by unfold crE; rw [if_pos h, ha, Int.toNat_natCast, hs]; rfl
  refine ⟨e, ?_, ?_⟩
  · unfold crL; rw [e]; rfl
  · unfold crH; rw [e]; rfl
theorem cr_ok {ds ss : List Int} {src co si hy co' si' hy' : Int} {m : Nat} (h : ceE ds ss src co si hy co' si' hy' m = 0) (ha : alB si si' = true) (hs : sameN ds ss src co si hy co' si' hy' m = true) : crE ds ss src co si hy co' si' hy' m = 0 ∧ crL ds ss src co si hy co' si' hy' m = clLo ds ss src co si hy co' si' hy' m ∧ crH ds ss src co si hy co' si' hy' m = clHi ds ss src co si hy co' si' hy' m := by
  have e : crE ds ss src co si hy co' si' hy' m = 0 := by unfold crE; rw [if_pos h, ha, Int.toNat_natCast, hs]; rfl
  refine ⟨e, ?_, ?_⟩
  · unfold crL; rw [if_pos e, Int.toNat_natCast]
  · unfold crH; rw [if_pos e, Int.toNat_natCast]
set_option maxHeartbeats 1000000 in
theorem areAlike_any (co si hy co' si' hy' : Int) (w : World) :
    Calls Tryz.prog 28 #[dirV co si hy, dirV co' si' hy'] w fun e w' => e = .returned (.bool (alB si si')) ∧ Below w.heap.size w w' := by
  go_enter Tryz.func28, Tryz.ntmps28
  go_wp2
  all_goals go_ret
  all_goals exact ⟨ret_bool (by unfold alB; first | rfl | simp), by go_grown⟩
set_option maxHeartbeats 1000000 in
theorem l08Alike_any (co si hy co' si' hy' : Int) (w : World) :
    Calls Tryz.prog 70 #[dirV co si hy, dirV co' si' hy'] w fun e w' => e = .returned (.bool (alB si si')) ∧ Below w.heap.size w w' := by
  go_enter Tryz.func70, Tryz.ntmps70
  go_wp2
  all_goals go_ret
  all_goals exact ⟨ret_bool (by unfold alB; first | rfl | simp), by go_grown⟩
set_option maxHeartbeats 4000000 in
theorem cellCode_any (A1 A2 : Option Addr) (c1 c2 : Nat) (ds ss : List Int) (src co si hy co' si' hy' n : Int) (w : World) (h : ProfAt w A1 c1 A2 c2 ds ss) :
    Calls Tryz.prog 27 #[profV A1 ds.length c1 A2 ss.length c2, .int .i64 src, dirV co si hy, dirV co' si' hy', .int .i64 n] w fun e w' => e = .returned (.int .i64 (ceE ds ss src co si hy co' si' hy' n)) ∧ Below w.heap.size w w' := by
  have hn := Nat.le_trans h.1.1 h.1.2.1
  have H := Lib.hid h; clear h
  rcases Bool.eq_false_or_eq_true (profB ds ss) with hp | hp
  rotate_left
  · have HE : Hid (ceE ds ss src co si hy co' si' hy' n = 1) := by show _ = _; simp [ceE, ceE, hp]
    go_enter Tryz.func27, Tryz.ntmps27
    go_wp2_with (first
      | (go_at_call 39; refine (implIsProfile_any _ _ _ _ _ _ _ (H.out.1.below (B := w.heap.size) (by first | exact Below.refl _ _ | (go_grown; done) | exact bdrewN (by go_grown) _) (Nat.le_refl _)) (H.out.2.below (B := w.heap.size) (by first | exact Below.refl _ _ | (go_grown; done) | exact bdrewN (by go_grown) _) (Nat.le_refl _))).mono ?_; rintro e w1 ⟨rfl, hb1⟩; obtain ⟨B1, hz1, q1, s1, t1, x1, y1, z1⟩ := bkeep (w := w) [w.heap.size, w.heap.size + 1, w.heap.size + 1 + 1] (by first | (simp; done) | (simp; omega)) (by first | (go_grown; done) | exact bdrewN (by go_grown) _) hb1; (try simp at hz1); clear hb1)
      | (go_at_call 29; refine (implIsDirection_any _ _ _ _).mono ?_; rintro e w2 ⟨rfl, hb2⟩; obtain ⟨B2, hz2, q2, s2, t2, x2, y2, z2⟩ := bkeep (w := w) [w.heap.size, w.heap.size + 1, w.heap.size + 1 + 1] (by first | (simp; done) | (simp; omega)) (by first | (go_grown; done) | exact bdrewN (by go_grown) _) hb2; (try simp at hz2); clear hb2)
      | (go_at_call 41; refine (isKnot_any _ _ _ _ _ _ _ _ hn).mono ?_; rintro e w3 ⟨rfl, hb3⟩; obtain ⟨B3, hz3, q3, s3, t3, x3, y3, z3⟩ := bkeep (w := w) [w.heap.size, w.heap.size + 1, w.heap.size + 1 + 1] (by first | (simp; done) | (simp; omega)) (by first | (go_grown; done) | exact bdrewN (by go_grown) _) hb3; (try simp at hz3); clear hb3)
      | (go_at_call 25; refine (within_any _ _ _ _).mono ?_; rintro e w' ⟨rfl, rfl⟩))
    all_goals go_ret
    all_goals exact ⟨ret_int HE.out.symm, (by first | with_reducible exact B1 | (go_grown; done) | with_reducible exact bdrewN B1 _ | (go_grown <;> first | with_reducible exact bdrewN B1 _ | with_reducible exact B1))⟩
  rcases Bool.eq_false_or_eq_true (dirB co si hy) with hd | hd
  rotate_left
  · have HE : Hid (ceE ds ss src co si hy co' si' hy' n = 1) := by show _ = _; simp [ceE, ceE, hp, hd]
    go_enter Tryz.func27, Tryz.ntmps27
    go_wp2_with (first
      | (go_at_call 39; refine (implIsProfile_any _ _ _ _ _ _ _ (H.out.1.below (B := w.heap.size) (by first | exact Below.refl _ _ | (go_grown; done) | exact bdrewN (by go_grown) _) (Nat.le_refl _)) (H.out.2.below (B := w.heap.size) (by first | exact Below.refl _ _ | (go_grown; done) | exact bdrewN (by go_grown) _) (Nat.le_refl _))).mono ?_; rintro e w1 ⟨rfl, hb1⟩; obtain ⟨B1, hz1, q1, s1, t1, x1, y1, z1⟩ := bkeep (w := w) [w.heap.size, w.heap.size + 1, w.heap.size + 1 + 1] (by first | (simp; done) | (simp; omega)) (by first | (go_grown; done) | exact bdrewN (by go_grown) _) hb1; (try simp at hz1); clear hb1)
      | (go_at_call 29; refine (implIsDirection_any _ _ _ _).mono ?_; rintro e w2 ⟨rfl, hb2⟩; obtain ⟨B2, hz2, q2, s2, t2, x2, y2, z2⟩ := bkeep (w := w) [w.heap.size, w.heap.size + 1, w.heap.size + 1 + 1] (by first | (simp; done) | (simp; omega)) (by first | (go_grown; done) | exact bdrewN (by go_grown) _) hb2; (try simp at hz2); clear hb2)
      | (go_at_call 41; refine (isKnot_any _ _ _ _ _ _ _ _ hn).mono ?_; rintro e w3 ⟨rfl, hb3⟩; obtain ⟨B3, hz3, q3, s3, t3, x3, y3, z3⟩ := bkeep (w := w) [w.heap.size, w.heap.size + 1, w.heap.size + 1 + 1] (by first | (simp; done) | (simp; omega)) (by first | (go_grown; done) | exact bdrewN (by go_grown) _) hb3; (try simp at hz3); clear hb3)
      | (go_at_call 25; refine (within_any _ _ _ _).mono ?_; rintro e w' ⟨rfl, rfl⟩))
    all_goals go_ret
    all_goals exact ⟨ret_int HE.out.symm, (by first | with_reducible exact B2 | (go_grown; done) | with_reducible exact bdrewN B2 _ | (go_grown <;> first | with_reducible exact bdrewN B2 _ | with_reducible exact B2))⟩
  rcases Bool.eq_false_or_eq_true (dirB co' si' hy') with he | he
  rotate_left
  · have HE : Hid (ceE ds ss src co si hy co' si' hy' n = 1) := by show _ = _; simp [ceE, ceE, hp, hd, he]
    go_enter Tryz.func27, Tryz.ntmps27
    go_wp2_with (first
      | (go_at_call 39; refine (implIsProfile_any _ _ _ _ _ _ _ (H.out.1.below (B := w.heap.size) (by first | exact Below.refl _ _ | (go_grown; done) | exact bdrewN (by go_grown) _) (Nat.le_refl _)) (H.out.2.below (B := w.heap.size) (by first | exact Below.refl _ _ | (go_grown; done) | exact bdrewN (by go_grown) _) (Nat.le_refl _))).mono ?_; rintro e w1 ⟨rfl, hb1⟩; obtain ⟨B1, hz1, q1, s1, t1, x1, y1, z1⟩ := bkeep (w := w) [w.heap.size, w.heap.size + 1, w.heap.size + 1 + 1] (by first | (simp; done) | (simp; omega)) (by first | (go_grown; done) | exact bdrewN (by go_grown) _) hb1; (try simp at hz1); clear hb1)
      | (go_at_call 29; refine (implIsDirection_any _ _ _ _).mono ?_; rintro e w2 ⟨rfl, hb2⟩; obtain ⟨B2, hz2, q2, s2, t2, x2, y2, z2⟩ := bkeep (w := w) [w.heap.size, w.heap.size + 1, w.heap.size + 1 + 1] (by first | (simp; done) | (simp; omega)) (by first | (go_grown; done) | exact bdrewN (by go_grown) _) hb2; (try simp at hz2); clear hb2)
      | (go_at_call 41; refine (isKnot_any _ _ _ _ _ _ _ _ hn).mono ?_; rintro e w3 ⟨rfl, hb3⟩; obtain ⟨B3, hz3, q3, s3, t3, x3, y3, z3⟩ := bkeep (w := w) [w.heap.size, w.heap.size + 1, w.heap.size + 1 + 1] (by first | (simp; done) | (simp; omega)) (by first | (go_grown; done) | exact bdrewN (by go_grown) _) hb3; (try simp at hz3); clear hb3)
      | (go_at_call 25; refine (within_any _ _ _ _).mono ?_; rintro e w' ⟨rfl, rfl⟩))
    all_goals go_ret
    all_goals exact ⟨ret_int HE.out.symm, (by first | with_reducible exact B2 | (go_grown; done) | with_reducible exact bdrewN B2 _ | (go_grown <;> first | with_reducible exact bdrewN B2 _ | with_reducible exact B2))⟩
  rcases Bool.eq_false_or_eq_true (inB src 0 ((ds.length : Int) - 1)) with hk | hk
  rotate_left
  · have HE : Hid (ceE ds ss src co si hy co' si' hy' n = 2) := by show _ = _; simp [ceE, ceE, hp, hd, he, hk]
    go_enter Tryz.func27, Tryz.ntmps27
    go_wp2_with (first
      | (go_at_call 39; refine (implIsProfile_any _ _ _ _ _ _ _ (H.out.1.below (B := w.heap.size) (by first | exact Below.refl _ _ | (go_grown; done) | exact bdrewN (by go_grown) _) (Nat.le_refl _)) (H.out.2.below (B := w.heap.size) (by first | exact Below.refl _ _ | (go_grown; done) | exact bdrewN (by go_grown) _) (Nat.le_refl _))).mono ?_; rintro e w1 ⟨rfl, hb1⟩; obtain ⟨B1, hz1, q1, s1, t1, x1, y1, z1⟩ := bkeep (w := w) [w.heap.size, w.heap.size + 1, w.heap.size + 1 + 1] (by first | (simp; done) | (simp; omega)) (by first | (go_grown; done) | exact bdrewN (by go_grown) _) hb1; (try simp at hz1); clear hb1)
      | (go_at_call 29; refine (implIsDirection_any _ _ _ _).mono ?_; rintro e w2 ⟨rfl, hb2⟩; obtain ⟨B2, hz2, q2, s2, t2, x2, y2, z2⟩ := bkeep (w := w) [w.heap.size, w.heap.size + 1, w.heap.size + 1 + 1] (by first | (simp; done) | (simp; omega)) (by first | (go_grown; done) | exact bdrewN (by go_grown) _) hb2; (try simp at hz2); clear hb2)
      | (go_at_call 41; refine (isKnot_any _ _ _ _ _ _ _ _ hn).mono ?_; rintro e w3 ⟨rfl, hb3⟩; obtain ⟨B3, hz3, q3, s3, t3, x3, y3, z3⟩ := bkeep (w := w) [w.heap.size, w.heap.size + 1, w.heap.size + 1 + 1] (by first | (simp; done) | (simp; omega)) (by first | (go_grown; done) | exact bdrewN (by go_grown) _) hb3; (try simp at hz3); clear hb3)
      | (go_at_call 25; refine (within_any _ _ _ _).mono ?_; rintro e w' ⟨rfl, rfl⟩))
    all_goals go_ret
    all_goals exact ⟨ret_int HE.out.symm, (by first | with_reducible exact B3 | (go_grown; done) | with_reducible exact bdrewN B3 _ | (go_grown <;> first | with_reducible exact bdrewN B3 _ | with_reducible exact B3))⟩
  rcases Bool.eq_false_or_eq_true (inB n 0 100) with hm | hm
  rotate_left
  · have HE : Hid (ceE ds ss src co si hy co' si' hy' n = 2) := by show _ = _; simp [ceE, ceE, hp, hd, he, hk, hm]
    go_enter Tryz.func27, Tryz.ntmps27
    go_wp2_with (first
      | (go_at_call 39; refine (implIsProfile_any _ _ _ _ _ _ _ (H.out.1.below (B := w.heap.size) (by first | exact Below.refl _ _ | (go_grown; done) | exact bdrewN (by go_grown) _) (Nat.le_refl _)) (H.out.2.below (B := w.heap.size) (by first | exact Below.refl _ _ | (go_grown; done) | exact bdrewN (by go_grown) _) (Nat.le_refl _))).mono ?_; rintro e w1 ⟨rfl, hb1⟩; obtain ⟨B1, hz1, q1, s1, t1, x1, y1, z1⟩ := bkeep (w := w) [w.heap.size, w.heap.size + 1, w.heap.size + 1 + 1] (by first | (simp; done) | (simp; omega)) (by first | (go_grown; done) | exact bdrewN (by go_grown) _) hb1; (try simp at hz1); clear hb1)
      | (go_at_call 29; refine (implIsDirection_any _ _ _ _).mono ?_; rintro e w2 ⟨rfl, hb2⟩; obtain ⟨B2, hz2, q2, s2, t2, x2, y2, z2⟩ := bkeep (w := w) [w.heap.size, w.heap.size + 1, w.heap.size + 1 + 1] (by first | (simp; done) | (simp; omega)) (by first | (go_grown; done) | exact bdrewN (by go_grown) _) hb2; (try simp at hz2); clear hb2)
      | (go_at_call 41; refine (isKnot_any _ _ _ _ _ _ _ _ hn).mono ?_; rintro e w3 ⟨rfl, hb3⟩; obtain ⟨B3, hz3, q3, s3, t3, x3, y3, z3⟩ := bkeep (w := w) [w.heap.size, w.heap.size + 1, w.heap.size + 1 + 1] (by first | (simp; done) | (simp; omega)) (by first | (go_grown; done) | exact bdrewN (by go_grown) _) hb3; (try simp at hz3); clear hb3)
      | (go_at_call 25; refine (within_any _ _ _ _).mono ?_; rintro e w' ⟨rfl, rfl⟩))
    all_goals go_ret
    all_goals exact ⟨ret_int HE.out.symm, (by first | with_reducible exact B3 | (go_grown; done) | with_reducible exact bdrewN B3 _ | (go_grown <;> first | with_reducible exact bdrewN B3 _ | with_reducible exact B3))⟩
  have HE : Hid (ceE ds ss src co si hy co' si' hy' n = 0) := by show _ = _; simp [ceE, ceE, hp, hd, he, hk, hm]
  go_enter Tryz.func27, Tryz.ntmps27
  go_wp2_with (first
    | (go_at_call 39; refine (implIsProfile_any _ _ _ _ _ _ _ (H.out.1.below (B := w.heap.size) (by first | exact Below.refl _ _ | (go_grown; done) | exact bdrewN (by go_grown) _) (Nat.le_refl _)) (H.out.2.below (B := w.heap.size) (by first | exact Below.refl _ _ | (go_grown; done) | exact bdrewN (by go_grown) _) (Nat.le_refl _))).mono ?_; rintro e w1 ⟨rfl, hb1⟩; obtain ⟨B1, hz1, q1, s1, t1, x1, y1, z1⟩ := bkeep (w := w) [w.heap.size, w.heap.size + 1, w.heap.size + 1 + 1] (by first | (simp; done) | (simp; omega)) (by first | (go_grown; done) | exact bdrewN (by go_grown) _) hb1; (try simp at hz1); clear hb1)
    | (go_at_call 29; refine (implIsDirection_any _ _ _ _).mono ?_; rintro e w2 ⟨rfl, hb2⟩; obtain ⟨B2, hz2, q2, s2, t2, x2, y2, z2⟩ := bkeep (w := w) [w.heap.size, w.heap.size + 1, w.heap.size + 1 + 1] (by first | (simp; done) | (simp; omega)) (by first | (go_grown; done) | exact bdrewN (by go_grown) _) hb2; (try simp at hz2); clear hb2)
    | (go_at_call 41; refine (isKnot_any _ _ _ _ _ _ _ _ hn).mono ?_; rintro e w3 ⟨rfl, hb3⟩; obtain ⟨B3, hz3, q3, s3, t3, x3, y3, z3⟩ := bkeep (w := w) [w.heap.size, w.heap.size + 1, w.heap.size + 1 + 1] (by first | (simp; done) | (simp; omega)) (by first | (go_grown; done) | exact bdrewN (by go_grown) _) hb3; (try simp at hz3); clear hb3)
    | (go_at_call 25; refine (within_any _ _ _ _).mono ?_; rintro e w' ⟨rfl, rfl⟩))
  all_goals go_ret
  all_goals exact ⟨ret_int HE.out.symm, (by first | with_reducible exact B3 | (go_grown; done) | with_reducible exact bdrewN B3 _ | (go_grown <;> first | with_reducible exact bdrewN B3 _ | with_reducible exact B3))⟩
set_option maxHeartbeats 4000000 in
theorem l08Code_any (A1 A2 : Option Addr) (c1 c2 : Nat) (ds ss : List Int) (src co si hy co' si' hy' n : Int) (w : World) (h : ProfAt w A1 c1 A2 c2 ds ss) :
    Calls Tryz.prog 51 #[profV A1 ds.length c1 A2 ss.length c2, .int .i64 src, dirV co si hy, dirV co' si' hy', .int .i64 n] w fun e w' => e = .returned (.int .i64 (l8E ds ss src co si hy co' si' hy' n)) ∧ Below w.heap.size w w' := by
  have hn := Nat.le_trans h.1.1 h.1.2.1
  have H := Lib.hid h; clear h
  rcases Bool.eq_false_or_eq_true (profB ds ss) with hp | hp
  rotate_left
  · have HE : Hid (l8E ds ss src co si hy co' si' hy' n = 1) := by show _ = _; simp [l8E, ceE, hp]
    go_enter Tryz.func51, Tryz.ntmps51
    go_wp2_with (first
      | (go_at_call 48; refine (specIsProfile_any _ _ _ _ _ _ _ (H.out.1.below (B := w.heap.size) (by first | exact Below.refl _ _ | (go_grown; done) | exact bdrewN (by go_grown) _) (Nat.le_refl _)) (H.out.2.below (B := w.heap.size) (by first | exact Below.refl _ _ | (go_grown; done) | exact bdrewN (by go_grown) _) (Nat.le_refl _))).mono ?_; rintro e w1 ⟨rfl, hb1⟩; obtain ⟨B1, hz1, q1, s1, t1, x1, y1, z1⟩ := bkeep (w := w) [w.heap.size, w.heap.size + 1, w.heap.size + 1 + 1] (by first | (simp; done) | (simp; omega)) (by first | (go_grown; done) | exact bdrewN (by go_grown) _) hb1; (try simp at hz1); clear hb1)
      | (go_at_call 69; refine (specIsDirection_any _ _ _ _).mono ?_; rintro e w2 ⟨rfl, hb2⟩; obtain ⟨B2, hz2, q2, s2, t2, x2, y2, z2⟩ := bkeep (w := w) [w.heap.size, w.heap.size + 1, w.heap.size + 1 + 1] (by first | (simp; done) | (simp; omega)) (by first | (go_grown; done) | exact bdrewN (by go_grown) _) hb2; (try simp at hz2); clear hb2)
      | (go_at_call 53; refine (l01In_any _ _ _ _).mono ?_; rintro e w' ⟨rfl, rfl⟩)
      | (go_at_call 70; refine (l08Alike_any _ _ _ _ _ _ _).mono ?_; rintro e w3 ⟨rfl, hb3⟩; obtain ⟨B3, hz3, q3, s3, t3, x3, y3, z3⟩ := bkeep (w := w) [w.heap.size, w.heap.size + 1, w.heap.size + 1 + 1] (by first | (simp; done) | (simp; omega)) (by first | (go_grown; done) | exact bdrewN (by go_grown) _) hb3; (try simp at hz3); clear hb3))
    all_goals go_ret
    all_goals exact ⟨ret_int HE.out.symm, (by first | with_reducible exact B1 | (go_grown; done) | with_reducible exact bdrewN B1 _ | (go_grown <;> first | with_reducible exact bdrewN B1 _ | with_reducible exact B1))⟩
  rcases Bool.eq_false_or_eq_true (dirB co si hy) with hd | hd
  rotate_left
  · have HE : Hid (l8E ds ss src co si hy co' si' hy' n = 1) := by show _ = _; simp [l8E, ceE, hp, hd]
    go_enter Tryz.func51, Tryz.ntmps51
    go_wp2_with (first
      | (go_at_call 48; refine (specIsProfile_any _ _ _ _ _ _ _ (H.out.1.below (B := w.heap.size) (by first | exact Below.refl _ _ | (go_grown; done) | exact bdrewN (by go_grown) _) (Nat.le_refl _)) (H.out.2.below (B := w.heap.size) (by first | exact Below.refl _ _ | (go_grown; done) | exact bdrewN (by go_grown) _) (Nat.le_refl _))).mono ?_; rintro e w1 ⟨rfl, hb1⟩; obtain ⟨B1, hz1, q1, s1, t1, x1, y1, z1⟩ := bkeep (w := w) [w.heap.size, w.heap.size + 1, w.heap.size + 1 + 1] (by first | (simp; done) | (simp; omega)) (by first | (go_grown; done) | exact bdrewN (by go_grown) _) hb1; (try simp at hz1); clear hb1)
      | (go_at_call 69; refine (specIsDirection_any _ _ _ _).mono ?_; rintro e w2 ⟨rfl, hb2⟩; obtain ⟨B2, hz2, q2, s2, t2, x2, y2, z2⟩ := bkeep (w := w) [w.heap.size, w.heap.size + 1, w.heap.size + 1 + 1] (by first | (simp; done) | (simp; omega)) (by first | (go_grown; done) | exact bdrewN (by go_grown) _) hb2; (try simp at hz2); clear hb2)
      | (go_at_call 53; refine (l01In_any _ _ _ _).mono ?_; rintro e w' ⟨rfl, rfl⟩)
      | (go_at_call 70; refine (l08Alike_any _ _ _ _ _ _ _).mono ?_; rintro e w3 ⟨rfl, hb3⟩; obtain ⟨B3, hz3, q3, s3, t3, x3, y3, z3⟩ := bkeep (w := w) [w.heap.size, w.heap.size + 1, w.heap.size + 1 + 1] (by first | (simp; done) | (simp; omega)) (by first | (go_grown; done) | exact bdrewN (by go_grown) _) hb3; (try simp at hz3); clear hb3))
    all_goals go_ret
    all_goals exact ⟨ret_int HE.out.symm, (by first | with_reducible exact B2 | (go_grown; done) | with_reducible exact bdrewN B2 _ | (go_grown <;> first | with_reducible exact bdrewN B2 _ | with_reducible exact B2))⟩
  rcases Bool.eq_false_or_eq_true (dirB co' si' hy') with he | he
  rotate_left
  · have HE : Hid (l8E ds ss src co si hy co' si' hy' n = 1) := by show _ = _; simp [l8E, ceE, hp, hd, he]
    go_enter Tryz.func51, Tryz.ntmps51
    go_wp2_with (first
      | (go_at_call 48; refine (specIsProfile_any _ _ _ _ _ _ _ (H.out.1.below (B := w.heap.size) (by first | exact Below.refl _ _ | (go_grown; done) | exact bdrewN (by go_grown) _) (Nat.le_refl _)) (H.out.2.below (B := w.heap.size) (by first | exact Below.refl _ _ | (go_grown; done) | exact bdrewN (by go_grown) _) (Nat.le_refl _))).mono ?_; rintro e w1 ⟨rfl, hb1⟩; obtain ⟨B1, hz1, q1, s1, t1, x1, y1, z1⟩ := bkeep (w := w) [w.heap.size, w.heap.size + 1, w.heap.size + 1 + 1] (by first | (simp; done) | (simp; omega)) (by first | (go_grown; done) | exact bdrewN (by go_grown) _) hb1; (try simp at hz1); clear hb1)
      | (go_at_call 69; refine (specIsDirection_any _ _ _ _).mono ?_; rintro e w2 ⟨rfl, hb2⟩; obtain ⟨B2, hz2, q2, s2, t2, x2, y2, z2⟩ := bkeep (w := w) [w.heap.size, w.heap.size + 1, w.heap.size + 1 + 1] (by first | (simp; done) | (simp; omega)) (by first | (go_grown; done) | exact bdrewN (by go_grown) _) hb2; (try simp at hz2); clear hb2)
      | (go_at_call 53; refine (l01In_any _ _ _ _).mono ?_; rintro e w' ⟨rfl, rfl⟩)
      | (go_at_call 70; refine (l08Alike_any _ _ _ _ _ _ _).mono ?_; rintro e w3 ⟨rfl, hb3⟩; obtain ⟨B3, hz3, q3, s3, t3, x3, y3, z3⟩ := bkeep (w := w) [w.heap.size, w.heap.size + 1, w.heap.size + 1 + 1] (by first | (simp; done) | (simp; omega)) (by first | (go_grown; done) | exact bdrewN (by go_grown) _) hb3; (try simp at hz3); clear hb3))
    all_goals go_ret
    all_goals exact ⟨ret_int HE.out.symm, (by first | with_reducible exact B2 | (go_grown; done) | with_reducible exact bdrewN B2 _ | (go_grown <;> first | with_reducible exact bdrewN B2 _ | with_reducible exact B2))⟩
  rcases Bool.eq_false_or_eq_true (inB src 0 ((ds.length : Int) - 1)) with hk | hk
  rotate_left
  · have HE : Hid (l8E ds ss src co si hy co' si' hy' n = 2) := by show _ = _; simp [l8E, ceE, hp, hd, he, hk]
    go_enter Tryz.func51, Tryz.ntmps51
    go_wp2_with (first
      | (go_at_call 48; refine (specIsProfile_any _ _ _ _ _ _ _ (H.out.1.below (B := w.heap.size) (by first | exact Below.refl _ _ | (go_grown; done) | exact bdrewN (by go_grown) _) (Nat.le_refl _)) (H.out.2.below (B := w.heap.size) (by first | exact Below.refl _ _ | (go_grown; done) | exact bdrewN (by go_grown) _) (Nat.le_refl _))).mono ?_; rintro e w1 ⟨rfl, hb1⟩; obtain ⟨B1, hz1, q1, s1, t1, x1, y1, z1⟩ := bkeep (w := w) [w.heap.size, w.heap.size + 1, w.heap.size + 1 + 1] (by first | (simp; done) | (simp; omega)) (by first | (go_grown; done) | exact bdrewN (by go_grown) _) hb1; (try simp at hz1); clear hb1)
      | (go_at_call 69; refine (specIsDirection_any _ _ _ _).mono ?_; rintro e w2 ⟨rfl, hb2⟩; obtain ⟨B2, hz2, q2, s2, t2, x2, y2, z2⟩ := bkeep (w := w) [w.heap.size, w.heap.size + 1, w.heap.size + 1 + 1] (by first | (simp; done) | (simp; omega)) (by first | (go_grown; done) | exact bdrewN (by go_grown) _) hb2; (try simp at hz2); clear hb2)
      | (go_at_call 53; refine (l01In_any _ _ _ _).mono ?_; rintro e w' ⟨rfl, rfl⟩)
      | (go_at_call 70; refine (l08Alike_any _ _ _ _ _ _ _).mono ?_; rintro e w3 ⟨rfl, hb3⟩; obtain ⟨B3, hz3, q3, s3, t3, x3, y3, z3⟩ := bkeep (w := w) [w.heap.size, w.heap.size + 1, w.heap.size + 1 + 1] (by first | (simp; done) | (simp; omega)) (by first | (go_grown; done) | exact bdrewN (by go_grown) _) hb3; (try simp at hz3); clear hb3))
    all_goals go_ret
    all_goals exact ⟨ret_int HE.out.symm, (by first | with_reducible exact B2 | (go_grown; done) | with_reducible exact bdrewN B2 _ | (go_grown <;> first | with_reducible exact bdrewN B2 _ | with_reducible exact B2))⟩
  rcases Bool.eq_false_or_eq_true (inB n 0 100) with hm | hm
  rotate_left
  · have HE : Hid (l8E ds ss src co si hy co' si' hy' n = 2) := by show _ = _; simp [l8E, ceE, hp, hd, he, hk, hm]
    go_enter Tryz.func51, Tryz.ntmps51
    go_wp2_with (first
      | (go_at_call 48; refine (specIsProfile_any _ _ _ _ _ _ _ (H.out.1.below (B := w.heap.size) (by first | exact Below.refl _ _ | (go_grown; done) | exact bdrewN (by go_grown) _) (Nat.le_refl _)) (H.out.2.below (B := w.heap.size) (by first | exact Below.refl _ _ | (go_grown; done) | exact bdrewN (by go_grown) _) (Nat.le_refl _))).mono ?_; rintro e w1 ⟨rfl, hb1⟩; obtain ⟨B1, hz1, q1, s1, t1, x1, y1, z1⟩ := bkeep (w := w) [w.heap.size, w.heap.size + 1, w.heap.size + 1 + 1] (by first | (simp; done) | (simp; omega)) (by first | (go_grown; done) | exact bdrewN (by go_grown) _) hb1; (try simp at hz1); clear hb1)
      | (go_at_call 69; refine (specIsDirection_any _ _ _ _).mono ?_; rintro e w2 ⟨rfl, hb2⟩; obtain ⟨B2, hz2, q2, s2, t2, x2, y2, z2⟩ := bkeep (w := w) [w.heap.size, w.heap.size + 1, w.heap.size + 1 + 1] (by first | (simp; done) | (simp; omega)) (by first | (go_grown; done) | exact bdrewN (by go_grown) _) hb2; (try simp at hz2); clear hb2)
      | (go_at_call 53; refine (l01In_any _ _ _ _).mono ?_; rintro e w' ⟨rfl, rfl⟩)
      | (go_at_call 70; refine (l08Alike_any _ _ _ _ _ _ _).mono ?_; rintro e w3 ⟨rfl, hb3⟩; obtain ⟨B3, hz3, q3, s3, t3, x3, y3, z3⟩ := bkeep (w := w) [w.heap.size, w.heap.size + 1, w.heap.size + 1 + 1] (by first | (simp; done) | (simp; omega)) (by first | (go_grown; done) | exact bdrewN (by go_grown) _) hb3; (try simp at hz3); clear hb3))
    all_goals go_ret
    all_goals exact ⟨ret_int HE.out.symm, (by first | with_reducible exact B2 | (go_grown; done) | with_reducible exact bdrewN B2 _ | (go_grown <;> first | with_reducible exact bdrewN B2 _ | with_reducible exact B2))⟩
  rcases Bool.eq_false_or_eq_true (alB si si') with ha | ha
  rotate_left
  · have HE : Hid (l8E ds ss src co si hy co' si' hy' n = 5) := by show _ = _; simp [l8E, ceE, hp, hd, he, hk, hm, ha]
    go_enter Tryz.func51, Tryz.ntmps51
    go_wp2_with (first
      | (go_at_call 48; refine (specIsProfile_any _ _ _ _ _ _ _ (H.out.1.below (B := w.heap.size) (by first | exact Below.refl _ _ | (go_grown; done) | exact bdrewN (by go_grown) _) (Nat.le_refl _)) (H.out.2.below (B := w.heap.size) (by first | exact Below.refl _ _ | (go_grown; done) | exact bdrewN (by go_grown) _) (Nat.le_refl _))).mono ?_; rintro e w1 ⟨rfl, hb1⟩; obtain ⟨B1, hz1, q1, s1, t1, x1, y1, z1⟩ := bkeep (w := w) [w.heap.size, w.heap.size + 1, w.heap.size + 1 + 1] (by first | (simp; done) | (simp; omega)) (by first | (go_grown; done) | exact bdrewN (by go_grown) _) hb1; (try simp at hz1); clear hb1)
      | (go_at_call 69; refine (specIsDirection_any _ _ _ _).mono ?_; rintro e w2 ⟨rfl, hb2⟩; obtain ⟨B2, hz2, q2, s2, t2, x2, y2, z2⟩ := bkeep (w := w) [w.heap.size, w.heap.size + 1, w.heap.size + 1 + 1] (by first | (simp; done) | (simp; omega)) (by first | (go_grown; done) | exact bdrewN (by go_grown) _) hb2; (try simp at hz2); clear hb2)
      | (go_at_call 53; refine (l01In_any _ _ _ _).mono ?_; rintro e w' ⟨rfl, rfl⟩)
      | (go_at_call 70; refine (l08Alike_any _ _ _ _ _ _ _).mono ?_; rintro e w3 ⟨rfl, hb3⟩; obtain ⟨B3, hz3, q3, s3, t3, x3, y3, z3⟩ := bkeep (w := w) [w.heap.size, w.heap.size + 1, w.heap.size + 1 + 1] (by first | (simp; done) | (simp; omega)) (by first | (go_grown; done) | exact bdrewN (by go_grown) _) hb3; (try simp at hz3); clear hb3))
    all_goals go_ret
    all_goals exact ⟨ret_int HE.out.symm, (by first | with_reducible exact B3 | (go_grown; done) | with_reducible exact bdrewN B3 _ | (go_grown <;> first | with_reducible exact bdrewN B3 _ | with_reducible exact B3))⟩
  have HE : Hid (l8E ds ss src co si hy co' si' hy' n = 0) := by show _ = _; simp [l8E, ceE, hp, hd, he, hk, hm, ha]
  go_enter Tryz.func51, Tryz.ntmps51
  go_wp2_with (first
    | (go_at_call 48; refine (specIsProfile_any _ _ _ _ _ _ _ (H.out.1.below (B := w.heap.size) (by first | exact Below.refl _ _ | (go_grown; done) | exact bdrewN (by go_grown) _) (Nat.le_refl _)) (H.out.2.below (B := w.heap.size) (by first | exact Below.refl _ _ | (go_grown; done) | exact bdrewN (by go_grown) _) (Nat.le_refl _))).mono ?_; rintro e w1 ⟨rfl, hb1⟩; obtain ⟨B1, hz1, q1, s1, t1, x1, y1, z1⟩ := bkeep (w := w) [w.heap.size, w.heap.size + 1, w.heap.size + 1 + 1] (by first | (simp; done) | (simp; omega)) (by first | (go_grown; done) | exact bdrewN (by go_grown) _) hb1; (try simp at hz1); clear hb1)
    | (go_at_call 69; refine (specIsDirection_any _ _ _ _).mono ?_; rintro e w2 ⟨rfl, hb2⟩; obtain ⟨B2, hz2, q2, s2, t2, x2, y2, z2⟩ := bkeep (w := w) [w.heap.size, w.heap.size + 1, w.heap.size + 1 + 1] (by first | (simp; done) | (simp; omega)) (by first | (go_grown; done) | exact bdrewN (by go_grown) _) hb2; (try simp at hz2); clear hb2)
    | (go_at_call 53; refine (l01In_any _ _ _ _).mono ?_; rintro e w' ⟨rfl, rfl⟩)
    | (go_at_call 70; refine (l08Alike_any _ _ _ _ _ _ _).mono ?_; rintro e w3 ⟨rfl, hb3⟩; obtain ⟨B3, hz3, q3, s3, t3, x3, y3, z3⟩ := bkeep (w := w) [w.heap.size, w.heap.size + 1, w.heap.size + 1 + 1] (by first | (simp; done) | (simp; omega)) (by first | (go_grown; done) | exact bdrewN (by go_grown) _) hb3; (try simp at hz3); clear hb3))
  all_goals go_ret
  all_goals exact ⟨ret_int HE.out.symm, (by first | with_reducible exact B3 | (go_grown; done) | with_reducible exact bdrewN B3 _ | (go_grown <;> first | with_reducible exact bdrewN B3 _ | with_reducible exact B3))⟩
set_option maxHeartbeats 4000000 in
theorem implCellRange_any (A1 A2 : Option Addr) (c1 c2 : Nat) (ds ss : List Int) (src co si hy co' si' hy' n : Int) (w : World) (h : ProfAt w A1 c1 A2 c2 ds ss) :
    Calls Tryz.prog 12 #[profV A1 ds.length c1 A2 ss.length c2, .int .i64 src, dirV co si hy, dirV co' si' hy', .int .i64 n] w fun e w' => e = .returned (.tuple #[ivV (crL ds ss src co si hy co' si' hy' n) (crH ds ss src co si hy co' si' hy' n), .int .i64 (crE ds ss src co si hy co' si' hy' n)]) ∧ Below w.heap.size w w' := by
  have H := Lib.hid h; clear h
  by_cases hc : ceE ds ss src co si hy co' si' hy' n = 0
  · rcases Bool.eq_false_or_eq_true (alB si si') with ha | ha
    · have hcode := hc
      have L8 := Lib.hid (show ∀ w, ProfAt w A1 c1 A2 c2 ds ss → Calls Tryz.prog 27 #[profV A1 ds.length c1 A2 ss.length c2, .int .i64 src, dirV co si hy, dirV co' si' hy', .int .i64 n] w fun e w' => e = .returned (.int .i64 0) ∧ Below w.heap.size w w' from fun w h => by have q := cellCode_any A1 A2 c1 c2 ds ss src co si hy co' si' hy' n w h; rw [hcode] at q; exact q)
      obtain ⟨r, r', m, rfl, hm⟩ := ce_zero hc
      have hs := al_eq ha
      have RR := Lib.hid r; have RQ := Lib.hid r'; have HS := Lib.hid hs; have HC := Lib.hid hc; clear r r' hs hc hcode
      rcases Bool.eq_false_or_eq_true (sameN ds ss src co si hy co' si' hy' m) with hsm | hsm
      · obtain ⟨eE, eL, eH⟩ := cr_ok HC.out ha hsm
        have EE := Lib.hid eE; have EL := Lib.hid eL; have EH := Lib.hid eH; clear eE eL eH
        have HSM := Lib.hid hsm; clear hsm
        go_enter Tryz.func12, Tryz.ntmps12
        go_wp2_with fail
        (refine (L8.out _ (H.out.below (B := w.heap.size) (by first | exact Below.refl _ _ | (go_grown; done) | exact bdrewN (by go_grown) _) (Nat.le_refl _))).mono ?_; rintro e w1 ⟨rfl, hb1⟩; obtain ⟨B1, hz1, q1, s1, t1, x1, y1, z1⟩ := bkeep (w := w) [w.heap.size, w.heap.size + 1, w.heap.size + 1 + 1, w.heap.size + 1 + 1 + 1] (by first | (simp; done) | (simp; omega)) (by first | (go_grown; done) | exact bdrewN (by go_grown) _) hb1; (try simp at hz1); clear hb1)
        go_wp2_with fail
        (refine (areAlike_any _ _ _ _ _ _ _).mono ?_; rintro e w2 ⟨rfl, hb2⟩; obtain ⟨B2, hz2, q2, s2, t2, x2, y2, z2⟩ := bkeep (w := w) [w.heap.size, w.heap.size + 1, w.heap.size + 1 + 1, w.heap.size + 1 + 1 + 1] (by first | (simp; done) | (simp; omega)) (by first | (go_grown; done) | exact bdrewN (by go_grown) _) hb2; (try simp at hz2); clear hb2)
        go_wp2_with fail
        refine (newCell_any A1 A2 c1 c2 ds ss src co si hy co' si' hy' m _ (H.out.below (B := w.heap.size) (by first | exact Below.refl _ _ | (go_grown; done) | exact bdrewN (by go_grown) _) (Nat.le_refl _)) RR.out RQ.out HS.out hm).mono ?_
        rintro e w3 ⟨⟨cb, As, Bs, cs, cs', rfl, hcb, F⟩, hb3⟩
        obtain ⟨B3, hz3, q3, s3, t3, x3, y3, z3⟩ := bkeep (w := w) [w.heap.size, w.heap.size + 1, w.heap.size + 1 + 1, w.heap.size + 1 + 1 + 1] (by first | (simp; done) | (simp; omega)) (by first | (go_grown; done) | exact bdrewN (by go_grown) _) hb3; (try simp at hz3); clear hb3
        have f18 := F.same; have lcb := F.lt
        rw [HSM.out] at f18
        have f19 := F.lo HSM.out; have f20 := F.hi HSM.out
        have ncb : cb ≠ w.heap.size + 1 + 1 + 1 := by omega
        have ncc : w.heap.size + 1 + 1 + 1 ≠ cb := by omega
        clear F
        obtain ⟨zl, hzl⟩ : ∃ x, clLo ds ss src co si hy co' si' hy' m = x := ⟨_, rfl⟩
        obtain ⟨zh, hzh⟩ : ∃ x, clHi ds ss src co si hy co' si' hy' m = x := ⟨_, rfl⟩
        rw [hzl] at f19; rw [hzh] at f20
        have ZL := Lib.hid hzl; have ZH := Lib.hid hzh; clear hzl hzh
        go_wp2
        refine bodyPost_ret (by simp [results, Tryz.results12, go_sem, *] <;> rfl) rfl ?_
        exact ⟨by rw [EE.out, EL.out, EH.out, ZL.out, ZH.out] <;> rfl, (by first | with_reducible exact B3 | (go_grown; done) | with_reducible exact bdrewN B3 _ | (go_grown <;> first | with_reducible exact bdrewN B3 _ | with_reducible exact B3))⟩
      · obtain ⟨eE, eL, eH⟩ := cr_part HC.out ha hsm
        have EE := Lib.hid eE; have EL := Lib.hid eL; have EH := Lib.hid eH; clear eE eL eH
        have HSM := Lib.hid hsm; clear hsm
        go_enter Tryz.func12, Tryz.ntmps12
        go_wp2_with fail
        (refine (L8.out _ (H.out.below (B := w.heap.size) (by first | exact Below.refl _ _ | (go_grown; done) | exact bdrewN (by go_grown) _) (Nat.le_refl _))).mono ?_; rintro e w1 ⟨rfl, hb1⟩; obtain ⟨B1, hz1, q1, s1, t1, x1, y1, z1⟩ := bkeep (w := w) [w.heap.size, w.heap.size + 1, w.heap.size + 1 + 1, w.heap.size + 1 + 1 + 1] (by first | (simp; done) | (simp; omega)) (by first | (go_grown; done) | exact bdrewN (by go_grown) _) hb1; (try simp at hz1); clear hb1)
        go_wp2_with fail
        (refine (areAlike_any _ _ _ _ _ _ _).mono ?_; rintro e w2 ⟨rfl, hb2⟩; obtain ⟨B2, hz2, q2, s2, t2, x2, y2, z2⟩ := bkeep (w := w) [w.heap.size, w.heap.size + 1, w.heap.size + 1 + 1, w.heap.size + 1 + 1 + 1] (by first | (simp; done) | (simp; omega)) (by first | (go_grown; done) | exact bdrewN (by go_grown) _) hb2; (try simp at hz2); clear hb2)
        go_wp2_with fail
        refine (newCell_any A1 A2 c1 c2 ds ss src co si hy co' si' hy' m _ (H.out.below (B := w.heap.size) (by first | exact Below.refl _ _ | (go_grown; done) | exact bdrewN (by go_grown) _) (Nat.le_refl _)) RR.out RQ.out HS.out hm).mono ?_
        rintro e w3 ⟨⟨cb, As, Bs, cs, cs', rfl, hcb, F⟩, hb3⟩
        obtain ⟨B3, hz3, q3, s3, t3, x3, y3, z3⟩ := bkeep (w := w) [w.heap.size, w.heap.size + 1, w.heap.size + 1 + 1, w.heap.size + 1 + 1 + 1] (by first | (simp; done) | (simp; omega)) (by first | (go_grown; done) | exact bdrewN (by go_grown) _) hb3; (try simp at hz3); clear hb3
        have f18 := F.same; have lcb := F.lt
        rw [HSM.out] at f18
        have ncb : cb ≠ w.heap.size + 1 + 1 + 1 := by omega
        have ncc : w.heap.size + 1 + 1 + 1 ≠ cb := by omega
        clear F
        go_wp2
        refine bodyPost_ret (by simp [results, Tryz.results12, go_sem, *] <;> rfl) rfl ?_
        exact ⟨by rw [EE.out, EL.out, EH.out] <;> rfl, (by first | with_reducible exact B3 | (go_grown; done) | with_reducible exact bdrewN B3 _ | (go_grown <;> first | with_reducible exact bdrewN B3 _ | with_reducible exact B3))⟩
    · obtain ⟨eE, eL, eH, e8⟩ := cr_unlike hc ha
      have hcode := hc
      have L8 := Lib.hid (show ∀ w, ProfAt w A1 c1 A2 c2 ds ss → Calls Tryz.prog 27 #[profV A1 ds.length c1 A2 ss.length c2, .int .i64 src, dirV co si hy, dirV co' si' hy', .int .i64 n] w fun e w' => e = .returned (.int .i64 0) ∧ Below w.heap.size w w' from fun w h => by have q := cellCode_any A1 A2 c1 c2 ds ss src co si hy co' si' hy' n w h; rw [hcode] at q; exact q)
      have EE := Lib.hid eE; have EL := Lib.hid eL; have EH := Lib.hid eH; clear eE eL eH
      clear hc e8 hcode
      go_enter Tryz.func12, Tryz.ntmps12
      go_wp2_with fail
      (refine (L8.out _ (H.out.below (B := w.heap.size) (by first | exact Below.refl _ _ | (go_grown; done) | exact bdrewN (by go_grown) _) (Nat.le_refl _))).mono ?_; rintro e w1 ⟨rfl, hb1⟩; obtain ⟨B1, hz1, q1, s1, t1, x1, y1, z1⟩ := bkeep (w := w) [w.heap.size, w.heap.size + 1, w.heap.size + 1 + 1, w.heap.size + 1 + 1 + 1] (by first | (simp; done) | (simp; omega)) (by first | (go_grown; done) | exact bdrewN (by go_grown) _) hb1; (try simp at hz1); clear hb1)
      go_wp2_with fail
      (refine (areAlike_any _ _ _ _ _ _ _).mono ?_; rintro e w2 ⟨rfl, hb2⟩; obtain ⟨B2, hz2, q2, s2, t2, x2, y2, z2⟩ := bkeep (w := w) [w.heap.size, w.heap.size + 1, w.heap.size + 1 + 1, w.heap.size + 1 + 1 + 1] (by first | (simp; done) | (simp; omega)) (by first | (go_grown; done) | exact bdrewN (by go_grown) _) hb2; (try simp at hz2); clear hb2)
      go_wp2
      refine bodyPost_ret (by simp [results, Tryz.results12, go_sem, *] <;> rfl) rfl ?_
      exact ⟨by rw [EE.out, EL.out, EH.out] <;> rfl, (by first | with_reducible exact B2 | (go_grown; done) | with_reducible exact bdrewN B2 _ | (go_grown <;> first | with_reducible exact bdrewN B2 _ | with_reducible exact B2))⟩
  · obtain ⟨eE, eL, eH, e8⟩ := cr_bad hc
    have hc2 : (ceE ds ss src co si hy co' si' hy' n != 0) = true := by simpa using hc
    have hcode : ceE ds ss src co si hy co' si' hy' n = ceE ds ss src co si hy co' si' hy' n := rfl
    have L8 := Lib.hid (show ∀ w, ProfAt w A1 c1 A2 c2 ds ss → Calls Tryz.prog 27 #[profV A1 ds.length c1 A2 ss.length c2, .int .i64 src, dirV co si hy, dirV co' si' hy', .int .i64 n] w fun e w' => e = .returned (.int .i64 (ceE ds ss src co si hy co' si' hy' n)) ∧ Below w.heap.size w w' from fun w h => by have q := cellCode_any A1 A2 c1 c2 ds ss src co si hy co' si' hy' n w h; exact q)
    have EE := Lib.hid eE; have EL := Lib.hid eL; have EH := Lib.hid eH; clear eE eL eH
    clear hc e8 hcode
    go_enter Tryz.func12, Tryz.ntmps12
    go_wp2_with fail
    (refine (L8.out _ (H.out.below (B := w.heap.size) (by first | exact Below.refl _ _ | (go_grown; done) | exact bdrewN (by go_grown) _) (Nat.le_refl _))).mono ?_; rintro e w1 ⟨rfl, hb1⟩; obtain ⟨B1, hz1, q1, s1, t1, x1, y1, z1⟩ := bkeep (w := w) [w.heap.size, w.heap.size + 1, w.heap.size + 1 + 1, w.heap.size + 1 + 1 + 1] (by first | (simp; done) | (simp; omega)) (by first | (go_grown; done) | exact bdrewN (by go_grown) _) hb1; (try simp at hz1); clear hb1)
    go_wp2
    refine bodyPost_ret (by simp [results, Tryz.results12, go_sem, *] <;> rfl) rfl ?_
    exact ⟨by rw [EE.out, EL.out, EH.out] <;> rfl, (by first | with_reducible exact B1 | (go_grown; done) | with_reducible exact bdrewN B1 _ | (go_grown <;> first | with_reducible exact bdrewN B1 _ | with_reducible exact B1))⟩
end Go.Proofs.YtopggkomkfjbfaaGreat
