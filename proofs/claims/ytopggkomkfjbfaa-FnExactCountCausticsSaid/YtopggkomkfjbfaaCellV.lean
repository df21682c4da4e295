/- The verdict on a cell of given directions, by the program and by the reference. -/
import Derived.Test.YtopggkomkfjbfaaVdc
import Derived.Test.YtopggkomkfjbfaaCellR
namespace Go.Proofs.Ytopggkomkfjbfaa
set_option linter.unusedSimpArgs false
set_option linter.unusedVariables false
open Go.RowKit

/-- whether a knot and a distance are those of a receiver -/
@[irreducible] def rcB (len : Nat) (knot dist : Int) : Bool := inB knot 0 ((len : Int) - 1) && inB dist 0 1000000000000
@[irreducible] def cvE (ds ss : List Int) (src co si hy co' si' hy' n : Int) (knot dist : Int) : Int := if ceE ds ss src co si hy co' si' hy' n = 0 then (if rcB ds.length knot dist then (if alB si si' then 0 else 5) else 2) else ceE ds ss src co si hy co' si' hy' n
@[irreducible] def cvV (ds ss : List Int) (src co si hy co' si' hy' n : Int) (knot dist : Int) : Int := if cvE ds ss src co si hy co' si' hy' n knot dist = 0 then cvI ds ss src co si hy co' si' hy' n.toNat knot dist else 0
theorem ce_three (ds ss : List Int) (src co si hy co' si' hy' n : Int) : ceE ds ss src co si hy co' si' hy' n = 0 ∨ ceE ds ss src co si hy co' si' hy' n = 1 ∨ ceE ds ss src co si hy co' si' hy' n = 2 := by
  unfold ceE; repeat' split
  all_goals omega
theorem cve_bad {ds ss : List Int} {src co si hy co' si' hy' n : Int} (knot dist : Int) (h : ceE ds ss src co si hy co' si' hy' n ≠ 0) : cvE ds ss src co si hy co' si' hy' n knot dist = ceE ds ss src co si hy co' si' hy' n ∧ cvV ds ss src co si hy co' si' hy' n knot dist = 0 := by
  have e : cvE ds ss src co si hy co' si' hy' n knot dist = ceE ds ss src co si hy co' si' hy' n := by unfold cvE; rw [if_neg h]
  exact ⟨e, by unfold cvV; rw [e, if_neg h]⟩
theorem cve_far {ds ss : List Int} {src co si hy co' si' hy' n knot dist : Int} (h : ceE ds ss src co si hy co' si' hy' n = 0) (hr : rcB ds.length knot dist = false) : cvE ds ss src co si hy co' si' hy' n knot dist = 2 ∧ cvV ds ss src co si hy co' si' hy' n knot dist = 0 := by
  have e : cvE ds ss src co si hy co' si' hy' n knot dist = 2 := by unfold cvE; rw [if_pos h, hr]; rfl
  exact ⟨e, by unfold cvV; rw [e]; rfl⟩
theorem cve_unlike {ds ss : List Int} {src co si hy co' si' hy' n knot dist : Int} (h : ceE ds ss src co si hy co' si' hy' n = 0) (hr : rcB ds.length knot dist = true) (ha : alB si si' = false) : cvE ds ss src co si hy co' si' hy' n knot dist = 5 ∧ cvV ds ss src co si hy co' si' hy' n knot dist = 0 := by
  have e : cvE ds ss src co si hy co' si' hy' n knot dist = 5 := by unfold cvE; rw [if_pos h, hr, ha]; rfl
  exact ⟨e, by unfold cvV; rw [e]; rfl⟩
theorem cve_ok {ds ss : List Int} {src co si hy co' si' hy' : Int} {m : Nat} {knot dist : Int} (h : ceE ds ss src co si hy co' si' hy' m = 0) (hr : rcB ds.length knot dist = true) (ha : alB si si' = true) : cvE ds ss src co si hy co' si' hy' m knot dist = 0 ∧ cvV ds ss src co si hy co' si' hy' m knot dist = cvI ds ss src co si hy co' si' hy' m knot dist := by
  have e : cvE ds ss src co si hy co' si' hy' m knot dist = 0 := by unfold cvE; rw [if_pos h, hr, ha]; rfl
  exact ⟨e, by unfold cvV; rw [if_pos e, Int.toNat_natCast]⟩
set_option maxHeartbeats 1000000 in
theorem isReceiver_any (A1 A2 : Option Addr) (len n2 c1 c2 : Nat) (knot dist : Int) (w : World) (hn : len ≤ maxLen) :
    Calls Try.prog 61 #[profV A1 len c1 A2 n2 c2, .int .i64 knot, .int .i64 dist] w fun e w' => e = .returned (.bool (rcB len knot dist)) ∧ Below w.heap.size w w' := by
  rcases Bool.eq_false_or_eq_true (inB knot 0 ((len : Int) - 1)) with hk | hk
  · rcases Bool.eq_false_or_eq_true (inB dist 0 1000000000000) with hd | hd
    all_goals
      have HE : Hid (rcB len knot dist = inB dist 0 1000000000000) := Lib.hid (by unfold rcB; rw [hk]; rfl)
      rw [hd] at HE
      go_enter Try.func61, Try.ntmps61
      go_wp2_with (first
        | (go_at_call 83; refine (isKnot_any _ _ _ _ _ _ _ _ hn).mono ?_; rintro e w3 ⟨rfl, hb3⟩; obtain ⟨B3, hz3, q3, s3, t3, x3, y3, z3⟩ := bkeep (w := w) [w.heap.size] (by first | (simp; done) | (simp; omega)) (by first | (go_grown; done) | exact bdrewN (by go_grown) _) hb3; (try simp at hz3); clear hb3)
        | (go_at_call 84; refine (within_any _ _ _ _).mono ?_; rintro e w' ⟨rfl, rfl⟩))
      all_goals go_ret
      all_goals exact ⟨ret_bool (HE.out.symm), (by first | with_reducible exact B3 | (go_grown; done) | with_reducible exact bdrewN B3 _ | (go_grown <;> first | with_reducible exact bdrewN B3 _ | with_reducible exact B3))⟩
  · have HE : Hid (rcB len knot dist = false) := Lib.hid (by unfold rcB; rw [hk]; rfl)
    go_enter Try.func61, Try.ntmps61
    go_wp2_with (first
      | (go_at_call 83; refine (isKnot_any _ _ _ _ _ _ _ _ hn).mono ?_; rintro e w3 ⟨rfl, hb3⟩; obtain ⟨B3, hz3, q3, s3, t3, x3, y3, z3⟩ := bkeep (w := w) [w.heap.size] (by first | (simp; done) | (simp; omega)) (by first | (go_grown; done) | exact bdrewN (by go_grown) _) hb3; (try simp at hz3); clear hb3)
      | (go_at_call 84; refine (within_any _ _ _ _).mono ?_; rintro e w' ⟨rfl, rfl⟩))
    all_goals go_ret
    all_goals exact ⟨ret_bool (HE.out.symm), (by first | with_reducible exact B3 | (go_grown; done) | with_reducible exact bdrewN B3 _ | (go_grown <;> first | with_reducible exact bdrewN B3 _ | with_reducible exact B3))⟩
set_option maxHeartbeats 1000000 in
theorem l08Target_any (A1 A2 : Option Addr) (len n2 c1 c2 : Nat) (knot dist : Int) (w : World) (hn : len ≤ maxLen) :
    Calls Try.prog 59 #[profV A1 len c1 A2 n2 c2, .int .i64 knot, .int .i64 dist] w fun e w' => e = .returned (.bool (rcB len knot dist)) ∧ Below w.heap.size w w' := by
  unfold maxLen at hn
  rcases Bool.eq_false_or_eq_true (inB knot 0 ((len : Int) - 1)) with hk | hk
  · rcases Bool.eq_false_or_eq_true (inB dist 0 1000000000000) with hd | hd
    all_goals
      have HE : Hid (rcB len knot dist = inB dist 0 1000000000000) := Lib.hid (by unfold rcB; rw [hk]; rfl)
      rw [hd] at HE
      go_enter Try.func59, Try.ntmps59
      go_wp2_with (go_at_call 77; refine (l01In_any _ _ _ _).mono ?_; rintro e w' ⟨rfl, rfl⟩)
      all_goals go_ret
      all_goals exact ⟨ret_bool (HE.out.symm), by go_grown⟩
  · have HE : Hid (rcB len knot dist = false) := Lib.hid (by unfold rcB; rw [hk]; rfl)
    go_enter Try.func59, Try.ntmps59
    go_wp2_with (go_at_call 77; refine (l01In_any _ _ _ _).mono ?_; rintro e w' ⟨rfl, rfl⟩)
    all_goals go_ret
    all_goals exact ⟨ret_bool (HE.out.symm), by go_grown⟩
set_option maxHeartbeats 4000000 in
theorem implCellVerdict_any (A1 A2 : Option Addr) (c1 c2 : Nat) (ds ss : List Int) (src co si hy co' si' hy' n knot dist : Int) (w : World) (h : ProfAt w A1 c1 A2 c2 ds ss) :
    Calls Try.prog 22 #[profV A1 ds.length c1 A2 ss.length c2, .int .i64 src, dirV co si hy, dirV co' si' hy', .int .i64 n, .int .i64 knot, .int .i64 dist] w fun e w' => e = .returned (.tuple #[.int .i64 (cvV ds ss src co si hy co' si' hy' n knot dist), .int .i64 (cvE ds ss src co si hy co' si' hy' n knot dist)]) ∧ Below w.heap.size w w' := by
  have hnl := Nat.le_trans h.1.1 h.1.2.1
  have H := Lib.hid h; clear h
  rcases ce_three ds ss src co si hy co' si' hy' n with hc | hc | hc
  rotate_left
  · have ee := cve_bad knot dist (show ceE ds ss src co si hy co' si' hy' n ≠ 0 by omega)
    rw [hc] at ee
    have L8 := Lib.hid (show ∀ w, ProfAt w A1 c1 A2 c2 ds ss → Calls Try.prog 48 #[profV A1 ds.length c1 A2 ss.length c2, .int .i64 src, dirV co si hy, dirV co' si' hy', .int .i64 n] w fun e w' => e = .returned (.int .i64 1) ∧ Below w.heap.size w w' from fun w h => by have q := cellCode_any A1 A2 c1 c2 ds ss src co si hy co' si' hy' n w h; rw [hc] at q; exact q)
    have RV : Hid (∀ w, Calls Try.prog 61 #[profV A1 ds.length c1 A2 ss.length c2, .int .i64 knot, .int .i64 dist] w fun e w' => e = .returned (.bool (rcB ds.length knot dist)) ∧ Below w.heap.size w w') := Lib.hid (fun w => isReceiver_any A1 A2 ds.length ss.length c1 c2 knot dist w hnl)
    have EE := Lib.hid ee.1; have EV := Lib.hid ee.2; clear ee
    go_enter Try.func22, Try.ntmps22
    go_wp2_with (first
      | (go_at_call 48; refine (L8.out _ (H.out.below (B := w.heap.size) (by first | exact Below.refl _ _ | (go_grown; done) | exact bdrewN (by go_grown) _) (Nat.le_refl _))).mono ?_; rintro e w1 ⟨rfl, hb1⟩; obtain ⟨B1, hz1, q1, s1, t1, x1, y1, z1⟩ := bkeep (w := w) [w.heap.size, w.heap.size + 1, w.heap.size + 1 + 1] (by first | (simp; done) | (simp; omega)) (by first | (go_grown; done) | exact bdrewN (by go_grown) _) hb1; (try simp at hz1); clear hb1)
      | (go_at_call 61; refine (RV.out _).mono ?_; rintro e w2 ⟨rfl, hb2⟩; obtain ⟨B2, hz2, q2, s2, t2, x2, y2, z2⟩ := bkeep (w := w) [w.heap.size, w.heap.size + 1, w.heap.size + 1 + 1] (by first | (simp; done) | (simp; omega)) (by first | (go_grown; done) | exact bdrewN (by go_grown) _) hb2; (try simp at hz2); clear hb2))
    all_goals refine bodyPost_ret (by simp [results, Try.results22, go_sem, *] <;> rfl) rfl ?_
    all_goals exact ⟨by rw [EE.out, EV.out], by first | exact (by first | with_reducible exact B3 | (go_grown; done) | with_reducible exact bdrewN B3 _ | (go_grown <;> first | with_reducible exact bdrewN B3 _ | with_reducible exact B3)) | exact (by first | with_reducible exact B2 | (go_grown; done) | with_reducible exact bdrewN B2 _ | (go_grown <;> first | with_reducible exact bdrewN B2 _ | with_reducible exact B2)) | exact (by first | with_reducible exact B1 | (go_grown; done) | with_reducible exact bdrewN B1 _ | (go_grown <;> first | with_reducible exact bdrewN B1 _ | with_reducible exact B1))⟩
  · have ee := cve_bad knot dist (show ceE ds ss src co si hy co' si' hy' n ≠ 0 by omega)
    rw [hc] at ee
    have L8 := Lib.hid (show ∀ w, ProfAt w A1 c1 A2 c2 ds ss → Calls Try.prog 48 #[profV A1 ds.length c1 A2 ss.length c2, .int .i64 src, dirV co si hy, dirV co' si' hy', .int .i64 n] w fun e w' => e = .returned (.int .i64 2) ∧ Below w.heap.size w w' from fun w h => by have q := cellCode_any A1 A2 c1 c2 ds ss src co si hy co' si' hy' n w h; rw [hc] at q; exact q)
    rcases Bool.eq_false_or_eq_true (rcB ds.length knot dist) with hr | hr
    · have RV := Lib.hid (show ∀ w, Calls Try.prog 61 #[profV A1 ds.length c1 A2 ss.length c2, .int .i64 knot, .int .i64 dist] w fun e w' => e = .returned (.bool true) ∧ Below w.heap.size w w' from fun w => by have q := isReceiver_any A1 A2 ds.length ss.length c1 c2 knot dist w hnl; rw [hr] at q; exact q)
      have EE := Lib.hid ee.1; have EV := Lib.hid ee.2; clear ee
      go_enter Try.func22, Try.ntmps22
      go_wp2_with (first
      | (go_at_call 48; refine (L8.out _ (H.out.below (B := w.heap.size) (by first | exact Below.refl _ _ | (go_grown; done) | exact bdrewN (by go_grown) _) (Nat.le_refl _))).mono ?_; rintro e w1 ⟨rfl, hb1⟩; obtain ⟨B1, hz1, q1, s1, t1, x1, y1, z1⟩ := bkeep (w := w) [w.heap.size, w.heap.size + 1, w.heap.size + 1 + 1] (by first | (simp; done) | (simp; omega)) (by first | (go_grown; done) | exact bdrewN (by go_grown) _) hb1; (try simp at hz1); clear hb1)
      | (go_at_call 61; refine (RV.out _).mono ?_; rintro e w2 ⟨rfl, hb2⟩; obtain ⟨B2, hz2, q2, s2, t2, x2, y2, z2⟩ := bkeep (w := w) [w.heap.size, w.heap.size + 1, w.heap.size + 1 + 1] (by first | (simp; done) | (simp; omega)) (by first | (go_grown; done) | exact bdrewN (by go_grown) _) hb2; (try simp at hz2); clear hb2))
      all_goals refine bodyPost_ret (by simp [results, Try.results22, go_sem, *] <;> rfl) rfl ?_
      all_goals exact ⟨by rw [EE.out, EV.out], by first | exact (by first | with_reducible exact B3 | (go_grown; done) | with_reducible exact bdrewN B3 _ | (go_grown <;> first | with_reducible exact bdrewN B3 _ | with_reducible exact B3)) | exact (by first | with_reducible exact B2 | (go_grown; done) | with_reducible exact bdrewN B2 _ | (go_grown <;> first | with_reducible exact bdrewN B2 _ | with_reducible exact B2)) | exact (by first | with_reducible exact B1 | (go_grown; done) | with_reducible exact bdrewN B1 _ | (go_grown <;> first | with_reducible exact bdrewN B1 _ | with_reducible exact B1))⟩
    · have RV := Lib.hid (show ∀ w, Calls Try.prog 61 #[profV A1 ds.length c1 A2 ss.length c2, .int .i64 knot, .int .i64 dist] w fun e w' => e = .returned (.bool false) ∧ Below w.heap.size w w' from fun w => by have q := isReceiver_any A1 A2 ds.length ss.length c1 c2 knot dist w hnl; rw [hr] at q; exact q)
      have EE := Lib.hid ee.1; have EV := Lib.hid ee.2; clear ee
      go_enter Try.func22, Try.ntmps22
      go_wp2_with (first
      | (go_at_call 48; refine (L8.out _ (H.out.below (B := w.heap.size) (by first | exact Below.refl _ _ | (go_grown; done) | exact bdrewN (by go_grown) _) (Nat.le_refl _))).mono ?_; rintro e w1 ⟨rfl, hb1⟩; obtain ⟨B1, hz1, q1, s1, t1, x1, y1, z1⟩ := bkeep (w := w) [w.heap.size, w.heap.size + 1, w.heap.size + 1 + 1] (by first | (simp; done) | (simp; omega)) (by first | (go_grown; done) | exact bdrewN (by go_grown) _) hb1; (try simp at hz1); clear hb1)
      | (go_at_call 61; refine (RV.out _).mono ?_; rintro e w2 ⟨rfl, hb2⟩; obtain ⟨B2, hz2, q2, s2, t2, x2, y2, z2⟩ := bkeep (w := w) [w.heap.size, w.heap.size + 1, w.heap.size + 1 + 1] (by first | (simp; done) | (simp; omega)) (by first | (go_grown; done) | exact bdrewN (by go_grown) _) hb2; (try simp at hz2); clear hb2))
      all_goals refine bodyPost_ret (by simp [results, Try.results22, go_sem, *] <;> rfl) rfl ?_
      all_goals exact ⟨by rw [EE.out, EV.out], by first | exact (by first | with_reducible exact B3 | (go_grown; done) | with_reducible exact bdrewN B3 _ | (go_grown <;> first | with_reducible exact bdrewN B3 _ | with_reducible exact B3)) | exact (by first | with_reducible exact B2 | (go_grown; done) | with_reducible exact bdrewN B2 _ | (go_grown <;> first | with_reducible exact bdrewN B2 _ | with_reducible exact B2)) | exact (by first | with_reducible exact B1 | (go_grown; done) | with_reducible exact bdrewN B1 _ | (go_grown <;> first | with_reducible exact bdrewN B1 _ | with_reducible exact B1))⟩
  rcases Bool.eq_false_or_eq_true (alB si si') with ha | ha
  · have L8 := Lib.hid (show ∀ w, ProfAt w A1 c1 A2 c2 ds ss → Calls Try.prog 48 #[profV A1 ds.length c1 A2 ss.length c2, .int .i64 src, dirV co si hy, dirV co' si' hy', .int .i64 n] w fun e w' => e = .returned (.int .i64 0) ∧ Below w.heap.size w w' from fun w h => by have q := cellCode_any A1 A2 c1 c2 ds ss src co si hy co' si' hy' n w h; rw [hc] at q; exact q)
    rcases Bool.eq_false_or_eq_true (rcB ds.length knot dist) with hr | hr
    · have RV := Lib.hid (show ∀ w, Calls Try.prog 61 #[profV A1 ds.length c1 A2 ss.length c2, .int .i64 knot, .int .i64 dist] w fun e w' => e = .returned (.bool true) ∧ Below w.heap.size w w' from fun w => by have q := isReceiver_any A1 A2 ds.length ss.length c1 c2 knot dist w hnl; rw [hr] at q; exact q)
      obtain ⟨r, r', m, rfl, hm⟩ := ce_zero hc
      have ee := cve_ok hc hr ha
      have hs := al_eq ha
      have EE := Lib.hid ee.1; have EV := Lib.hid ee.2; clear ee
      have RR := Lib.hid r; have RQ := Lib.hid r'; have HS := Lib.hid hs; have HC := Lib.hid hc; clear r r' hs hc
      go_enter Try.func22, Try.ntmps22
      have AL := Lib.hid (show ∀ w, Calls Try.prog 49 #[dirV co si hy, dirV co' si' hy'] w fun e w' => e = .returned (.bool true) ∧ Below w.heap.size w w' from fun w => by have q := areAlike_any co si hy co' si' hy' w; rw [ha] at q; exact q)
      go_wp2_with fail
      (refine (L8.out _ (H.out.below (B := w.heap.size) (by first | exact Below.refl _ _ | (go_grown; done) | exact bdrewN (by go_grown) _) (Nat.le_refl _))).mono ?_; rintro e w1 ⟨rfl, hb1⟩; obtain ⟨B1, hz1, q1, s1, t1, x1, y1, z1⟩ := bkeep (w := w) [w.heap.size, w.heap.size + 1, w.heap.size + 1 + 1] (by first | (simp; done) | (simp; omega)) (by first | (go_grown; done) | exact bdrewN (by go_grown) _) hb1; (try simp at hz1); clear hb1)
      go_wp2_with fail
      (refine (RV.out _).mono ?_; rintro e w2 ⟨rfl, hb2⟩; obtain ⟨B2, hz2, q2, s2, t2, x2, y2, z2⟩ := bkeep (w := w) [w.heap.size, w.heap.size + 1, w.heap.size + 1 + 1] (by first | (simp; done) | (simp; omega)) (by first | (go_grown; done) | exact bdrewN (by go_grown) _) hb2; (try simp at hz2); clear hb2)
      go_wp2_with fail
      (refine (AL.out _).mono ?_; rintro e w3 ⟨rfl, hb3⟩; obtain ⟨B3, hz3, q3, s3, t3, x3, y3, z3⟩ := bkeep (w := w) [w.heap.size, w.heap.size + 1, w.heap.size + 1 + 1] (by first | (simp; done) | (simp; omega)) (by first | (go_grown; done) | exact bdrewN (by go_grown) _) hb3; (try simp at hz3); clear hb3)
      go_wp2_with fail
      refine (newCell_any A1 A2 c1 c2 ds ss src co si hy co' si' hy' m _ (H.out.below (B := w.heap.size) (by first | exact Below.refl _ _ | (go_grown; done) | exact bdrewN (by go_grown) _) (Nat.le_refl _)) RR.out RQ.out HS.out hm).mono ?_
      rintro e w4 ⟨⟨cb, As, Bs, cs, cs', rfl, hcb, F⟩, hb4⟩
      obtain ⟨B4, hz4, q4, s4, t4, x4, y4, z4⟩ := bkeep (w := w) [w.heap.size, w.heap.size + 1, w.heap.size + 1 + 1] (by first | (simp; done) | (simp; omega)) (by first | (go_grown; done) | exact bdrewN (by go_grown) _) hb4; (try simp at hz4); clear hb4
      have VF := Lib.hid F; have lcb := F.lt; clear F
      go_wp2_with fail
      refine (implVerdict_any A1 A2 c1 c2 ds ss src co si hy co' si' hy' m cb As Bs cs cs' knot dist _ (VF.out.below (B := w4.heap.size) (by first | exact Below.refl _ _ | (go_grown; done) | exact bdrewN (by go_grown) _) (Nat.le_refl _)) RR.out RQ.out hm).mono ?_
      rintro e w5 ⟨rfl, hb5⟩
      obtain ⟨B5, hz5, q5, s5, t5, x5, y5, z5⟩ := bkeep (w := w) [w.heap.size, w.heap.size + 1, w.heap.size + 1 + 1] (by first | (simp; done) | (simp; omega)) (by first | (go_grown; done) | exact bdrewN (by go_grown) _) hb5; (try simp at hz5); clear hb5
      go_wp2
      refine bodyPost_ret (by simp [results, Try.results22, go_sem, *] <;> rfl) rfl ?_
      exact ⟨by rw [EE.out, EV.out] <;> rfl, (by first | with_reducible exact B5 | (go_grown; done) | with_reducible exact bdrewN B5 _ | (go_grown <;> first | with_reducible exact bdrewN B5 _ | with_reducible exact B5))⟩
    · have ee := cve_far hc hr
      have RV := Lib.hid (show ∀ w, Calls Try.prog 61 #[profV A1 ds.length c1 A2 ss.length c2, .int .i64 knot, .int .i64 dist] w fun e w' => e = .returned (.bool false) ∧ Below w.heap.size w w' from fun w => by have q := isReceiver_any A1 A2 ds.length ss.length c1 c2 knot dist w hnl; rw [hr] at q; exact q)
      have EE := Lib.hid ee.1; have EV := Lib.hid ee.2; clear ee
      go_enter Try.func22, Try.ntmps22
      go_wp2_with (first
      | (go_at_call 48; refine (L8.out _ (H.out.below (B := w.heap.size) (by first | exact Below.refl _ _ | (go_grown; done) | exact bdrewN (by go_grown) _) (Nat.le_refl _))).mono ?_; rintro e w1 ⟨rfl, hb1⟩; obtain ⟨B1, hz1, q1, s1, t1, x1, y1, z1⟩ := bkeep (w := w) [w.heap.size, w.heap.size + 1, w.heap.size + 1 + 1] (by first | (simp; done) | (simp; omega)) (by first | (go_grown; done) | exact bdrewN (by go_grown) _) hb1; (try simp at hz1); clear hb1)
      | (go_at_call 61; refine (RV.out _).mono ?_; rintro e w2 ⟨rfl, hb2⟩; obtain ⟨B2, hz2, q2, s2, t2, x2, y2, z2⟩ := bkeep (w := w) [w.heap.size, w.heap.size + 1, w.heap.size + 1 + 1] (by first | (simp; done) | (simp; omega)) (by first | (go_grown; done) | exact bdrewN (by go_grown) _) hb2; (try simp at hz2); clear hb2))
      all_goals refine bodyPost_ret (by simp [results, Try.results22, go_sem, *] <;> rfl) rfl ?_
      all_goals exact ⟨by rw [EE.out, EV.out], by first | exact (by first | with_reducible exact B3 | (go_grown; done) | with_reducible exact bdrewN B3 _ | (go_grown <;> first | with_reducible exact bdrewN B3 _ | with_reducible exact B3)) | exact (by first | with_reducible exact B2 | (go_grown; done) | with_reducible exact bdrewN B2 _ | (go_grown <;> first | with_reducible exact bdrewN B2 _ | with_reducible exact B2)) | exact (by first | with_reducible exact B1 | (go_grown; done) | with_reducible exact bdrewN B1 _ | (go_grown <;> first | with_reducible exact bdrewN B1 _ | with_reducible exact B1))⟩
  · have L8 := Lib.hid (show ∀ w, ProfAt w A1 c1 A2 c2 ds ss → Calls Try.prog 48 #[profV A1 ds.length c1 A2 ss.length c2, .int .i64 src, dirV co si hy, dirV co' si' hy', .int .i64 n] w fun e w' => e = .returned (.int .i64 0) ∧ Below w.heap.size w w' from fun w h => by have q := cellCode_any A1 A2 c1 c2 ds ss src co si hy co' si' hy' n w h; rw [hc] at q; exact q)
    rcases Bool.eq_false_or_eq_true (rcB ds.length knot dist) with hr | hr
    · have ee := cve_unlike hc hr ha
      have RV := Lib.hid (show ∀ w, Calls Try.prog 61 #[profV A1 ds.length c1 A2 ss.length c2, .int .i64 knot, .int .i64 dist] w fun e w' => e = .returned (.bool true) ∧ Below w.heap.size w w' from fun w => by have q := isReceiver_any A1 A2 ds.length ss.length c1 c2 knot dist w hnl; rw [hr] at q; exact q)
      have EE := Lib.hid ee.1; have EV := Lib.hid ee.2; clear ee
      have AL := Lib.hid (show ∀ w, Calls Try.prog 49 #[dirV co si hy, dirV co' si' hy'] w fun e w' => e = .returned (.bool false) ∧ Below w.heap.size w w' from fun w => by have q := areAlike_any co si hy co' si' hy' w; rw [ha] at q; exact q)
      go_enter Try.func22, Try.ntmps22
      go_wp2_with (first
      | (go_at_call 48; refine (L8.out _ (H.out.below (B := w.heap.size) (by first | exact Below.refl _ _ | (go_grown; done) | exact bdrewN (by go_grown) _) (Nat.le_refl _))).mono ?_; rintro e w1 ⟨rfl, hb1⟩; obtain ⟨B1, hz1, q1, s1, t1, x1, y1, z1⟩ := bkeep (w := w) [w.heap.size, w.heap.size + 1, w.heap.size + 1 + 1] (by first | (simp; done) | (simp; omega)) (by first | (go_grown; done) | exact bdrewN (by go_grown) _) hb1; (try simp at hz1); clear hb1)
      | (go_at_call 61; refine (RV.out _).mono ?_; rintro e w2 ⟨rfl, hb2⟩; obtain ⟨B2, hz2, q2, s2, t2, x2, y2, z2⟩ := bkeep (w := w) [w.heap.size, w.heap.size + 1, w.heap.size + 1 + 1] (by first | (simp; done) | (simp; omega)) (by first | (go_grown; done) | exact bdrewN (by go_grown) _) hb2; (try simp at hz2); clear hb2)
      | (go_at_call 49; refine (AL.out _).mono ?_; rintro e w3 ⟨rfl, hb3⟩; obtain ⟨B3, hz3, q3, s3, t3, x3, y3, z3⟩ := bkeep (w := w) [w.heap.size, w.heap.size + 1, w.heap.size + 1 + 1] (by first | (simp; done) | (simp; omega)) (by first | (go_grown; done) | exact bdrewN (by go_grown) _) hb3; (try simp at hz3); clear hb3))
      all_goals refine bodyPost_ret (by simp [results, Try.results22, go_sem, *] <;> rfl) rfl ?_
      all_goals exact ⟨by rw [EE.out, EV.out], by first | exact (by first | with_reducible exact B3 | (go_grown; done) | with_reducible exact bdrewN B3 _ | (go_grown <;> first | with_reducible exact bdrewN B3 _ | with_reducible exact B3)) | exact (by first | with_reducible exact B2 | (go_grown; done) | with_reducible exact bdrewN B2 _ | (go_grown <;> first | with_reducible exact bdrewN B2 _ | with_reducible exact B2)) | exact (by first | with_reducible exact B1 | (go_grown; done) | with_reducible exact bdrewN B1 _ | (go_grown <;> first | with_reducible exact bdrewN B1 _ | with_reducible exact B1))⟩
    · have ee := cve_far hc hr
      have RV := Lib.hid (show ∀ w, Calls Try.prog 61 #[profV A1 ds.length c1 A2 ss.length c2, .int .i64 knot, .int .i64 dist] w fun e w' => e = .returned (.bool false) ∧ Below w.heap.size w w' from fun w => by have q := isReceiver_any A1 A2 ds.length ss.length c1 c2 knot dist w hnl; rw [hr] at q; exact q)
      have EE := Lib.hid ee.1; have EV := Lib.hid ee.2; clear ee
      go_enter Try.func22, Try.ntmps22
      go_wp2_with (first
      | (go_at_call 48; refine (L8.out _ (H.out.below (B := w.heap.size) (by first | exact Below.refl _ _ | (go_grown; done) | exact bdrewN (by go_grown) _) (Nat.le_refl _))).mono ?_; rintro e w1 ⟨rfl, hb1⟩; obtain ⟨B1, hz1, q1, s1, t1, x1, y1, z1⟩ := bkeep (w := w) [w.heap.size, w.heap.size + 1, w.heap.size + 1 + 1] (by first | (simp; done) | (simp; omega)) (by first | (go_grown; done) | exact bdrewN (by go_grown) _) hb1; (try simp at hz1); clear hb1)
      | (go_at_call 61; refine (RV.out _).mono ?_; rintro e w2 ⟨rfl, hb2⟩; obtain ⟨B2, hz2, q2, s2, t2, x2, y2, z2⟩ := bkeep (w := w) [w.heap.size, w.heap.size + 1, w.heap.size + 1 + 1] (by first | (simp; done) | (simp; omega)) (by first | (go_grown; done) | exact bdrewN (by go_grown) _) hb2; (try simp at hz2); clear hb2))
      all_goals refine bodyPost_ret (by simp [results, Try.results22, go_sem, *] <;> rfl) rfl ?_
      all_goals exact ⟨by rw [EE.out, EV.out], by first | exact (by first | with_reducible exact B3 | (go_grown; done) | with_reducible exact bdrewN B3 _ | (go_grown <;> first | with_reducible exact bdrewN B3 _ | with_reducible exact B3)) | exact (by first | with_reducible exact B2 | (go_grown; done) | with_reducible exact bdrewN B2 _ | (go_grown <;> first | with_reducible exact bdrewN B2 _ | with_reducible exact B2)) | exact (by first | with_reducible exact B1 | (go_grown; done) | with_reducible exact bdrewN B1 _ | (go_grown <;> first | with_reducible exact bdrewN B1 _ | with_reducible exact B1))⟩
set_option maxHeartbeats 4000000 in
theorem specCellVerdict_any (A1 A2 : Option Addr) (c1 c2 : Nat) (ds ss : List Int) (src co si hy co' si' hy' n knot dist : Int) (w : World) (h : ProfAt w A1 c1 A2 c2 ds ss) :
    Calls Try.prog 21 #[profV A1 ds.length c1 A2 ss.length c2, .int .i64 src, dirV co si hy, dirV co' si' hy', .int .i64 n, .int .i64 knot, .int .i64 dist] w fun e w' => e = .returned (.tuple #[.int .i64 (cvV ds ss src co si hy co' si' hy' n knot dist), .int .i64 (cvE ds ss src co si hy co' si' hy' n knot dist)]) ∧ Below w.heap.size w w' := by
  have hnl := Nat.le_trans h.1.1 h.1.2.1
  have H := Lib.hid h; clear h
  rcases ce_three ds ss src co si hy co' si' hy' n with hc | hc | hc
  rotate_left
  · have ee := cve_bad knot dist (show ceE ds ss src co si hy co' si' hy' n ≠ 0 by omega)
    rw [hc] at ee
    have L8 := Lib.hid (show ∀ w, ProfAt w A1 c1 A2 c2 ds ss → Calls Try.prog 45 #[profV A1 ds.length c1 A2 ss.length c2, .int .i64 src, dirV co si hy, dirV co' si' hy', .int .i64 n] w fun e w' => e = .returned (.int .i64 1) ∧ Below w.heap.size w w' from fun w h => by have q := l08Code_any A1 A2 c1 c2 ds ss src co si hy co' si' hy' n w h; rw [(cr_bad (show ceE ds ss src co si hy co' si' hy' n ≠ 0 by omega)).2.2.2, hc] at q; exact q)
    have RV : Hid (∀ w, Calls Try.prog 59 #[profV A1 ds.length c1 A2 ss.length c2, .int .i64 knot, .int .i64 dist] w fun e w' => e = .returned (.bool (rcB ds.length knot dist)) ∧ Below w.heap.size w w') := Lib.hid (fun w => l08Target_any A1 A2 ds.length ss.length c1 c2 knot dist w hnl)
    have EE := Lib.hid ee.1; have EV := Lib.hid ee.2; clear ee
    go_enter Try.func21, Try.ntmps21
    go_wp2_with (first
      | (go_at_call 45; refine (L8.out _ (H.out.below (B := w.heap.size) (by first | exact Below.refl _ _ | (go_grown; done) | exact bdrewN (by go_grown) _) (Nat.le_refl _))).mono ?_; rintro e w1 ⟨rfl, hb1⟩; obtain ⟨B1, hz1, q1, s1, t1, x1, y1, z1⟩ := bkeep (w := w) [w.heap.size, w.heap.size + 1, w.heap.size + 1 + 1] (by first | (simp; done) | (simp; omega)) (by first | (go_grown; done) | exact bdrewN (by go_grown) _) hb1; (try simp at hz1); clear hb1)
      | (go_at_call 59; refine (RV.out _).mono ?_; rintro e w2 ⟨rfl, hb2⟩; obtain ⟨B2, hz2, q2, s2, t2, x2, y2, z2⟩ := bkeep (w := w) [w.heap.size, w.heap.size + 1, w.heap.size + 1 + 1] (by first | (simp; done) | (simp; omega)) (by first | (go_grown; done) | exact bdrewN (by go_grown) _) hb2; (try simp at hz2); clear hb2))
    all_goals refine bodyPost_ret (by simp [results, Try.results21, go_sem, *] <;> rfl) rfl ?_
    all_goals exact ⟨by rw [EE.out, EV.out], by first | exact (by first | with_reducible exact B3 | (go_grown; done) | with_reducible exact bdrewN B3 _ | (go_grown <;> first | with_reducible exact bdrewN B3 _ | with_reducible exact B3)) | exact (by first | with_reducible exact B2 | (go_grown; done) | with_reducible exact bdrewN B2 _ | (go_grown <;> first | with_reducible exact bdrewN B2 _ | with_reducible exact B2)) | exact (by first | with_reducible exact B1 | (go_grown; done) | with_reducible exact bdrewN B1 _ | (go_grown <;> first | with_reducible exact bdrewN B1 _ | with_reducible exact B1))⟩
  · have ee := cve_bad knot dist (show ceE ds ss src co si hy co' si' hy' n ≠ 0 by omega)
    rw [hc] at ee
    have L8 := Lib.hid (show ∀ w, ProfAt w A1 c1 A2 c2 ds ss → Calls Try.prog 45 #[profV A1 ds.length c1 A2 ss.length c2, .int .i64 src, dirV co si hy, dirV co' si' hy', .int .i64 n] w fun e w' => e = .returned (.int .i64 2) ∧ Below w.heap.size w w' from fun w h => by have q := l08Code_any A1 A2 c1 c2 ds ss src co si hy co' si' hy' n w h; rw [(cr_bad (show ceE ds ss src co si hy co' si' hy' n ≠ 0 by omega)).2.2.2, hc] at q; exact q)
    rcases Bool.eq_false_or_eq_true (rcB ds.length knot dist) with hr | hr
    · have RV := Lib.hid (show ∀ w, Calls Try.prog 59 #[profV A1 ds.length c1 A2 ss.length c2, .int .i64 knot, .int .i64 dist] w fun e w' => e = .returned (.bool true) ∧ Below w.heap.size w w' from fun w => by have q := l08Target_any A1 A2 ds.length ss.length c1 c2 knot dist w hnl; rw [hr] at q; exact q)
      have EE := Lib.hid ee.1; have EV := Lib.hid ee.2; clear ee
      go_enter Try.func21, Try.ntmps21
      go_wp2_with (first
      | (go_at_call 45; refine (L8.out _ (H.out.below (B := w.heap.size) (by first | exact Below.refl _ _ | (go_grown; done) | exact bdrewN (by go_grown) _) (Nat.le_refl _))).mono ?_; rintro e w1 ⟨rfl, hb1⟩; obtain ⟨B1, hz1, q1, s1, t1, x1, y1, z1⟩ := bkeep (w := w) [w.heap.size, w.heap.size + 1, w.heap.size + 1 + 1] (by first | (simp; done) | (simp; omega)) (by first | (go_grown; done) | exact bdrewN (by go_grown) _) hb1; (try simp at hz1); clear hb1)
      | (go_at_call 59; refine (RV.out _).mono ?_; rintro e w2 ⟨rfl, hb2⟩; obtain ⟨B2, hz2, q2, s2, t2, x2, y2, z2⟩ := bkeep (w := w) [w.heap.size, w.heap.size + 1, w.heap.size + 1 + 1] (by first | (simp; done) | (simp; omega)) (by first | (go_grown; done) | exact bdrewN (by go_grown) _) hb2; (try simp at hz2); clear hb2))
      all_goals refine bodyPost_ret (by simp [results, Try.results21, go_sem, *] <;> rfl) rfl ?_
      all_goals exact ⟨by rw [EE.out, EV.out], by first | exact (by first | with_reducible exact B3 | (go_grown; done) | with_reducible exact bdrewN B3 _ | (go_grown <;> first | with_reducible exact bdrewN B3 _ | with_reducible exact B3)) | exact (by first | with_reducible exact B2 | (go_grown; done) | with_reducible exact bdrewN B2 _ | (go_grown <;> first | with_reducible exact bdrewN B2 _ | with_reducible exact B2)) | exact (by first | with_reducible exact B1 | (go_grown; done) | with_reducible exact bdrewN B1 _ | (go_grown <;> first | with_reducible exact bdrewN B1 _ | with_reducible exact B1))⟩
    · have RV := Lib.hid (show ∀ w, Calls Try.prog 59 #[profV A1 ds.length c1 A2 ss.length c2, .int .i64 knot, .int .i64 dist] w fun e w' => e = .returned (.bool false) ∧ Below w.heap.size w w' from fun w => by have q := l08Target_any A1 A2 ds.length ss.length c1 c2 knot dist w hnl; rw [hr] at q; exact q)
      have EE := Lib.hid ee.1; have EV := Lib.hid ee.2; clear ee
      go_enter Try.func21, Try.ntmps21
      go_wp2_with (first
      | (go_at_call 45; refine (L8.out _ (H.out.below (B := w.heap.size) (by first | exact Below.refl _ _ | (go_grown; done) | exact bdrewN (by go_grown) _) (Nat.le_refl _))).mono ?_; rintro e w1 ⟨rfl, hb1⟩; obtain ⟨B1, hz1, q1, s1, t1, x1, y1, z1⟩ := bkeep (w := w) [w.heap.size, w.heap.size + 1, w.heap.size + 1 + 1] (by first | (simp; done) | (simp; omega)) (by first | (go_grown; done) | exact bdrewN (by go_grown) _) hb1; (try simp at hz1); clear hb1)
      | (go_at_call 59; refine (RV.out _).mono ?_; rintro e w2 ⟨rfl, hb2⟩; obtain ⟨B2, hz2, q2, s2, t2, x2, y2, z2⟩ := bkeep (w := w) [w.heap.size, w.heap.size + 1, w.heap.size + 1 + 1] (by first | (simp; done) | (simp; omega)) (by first | (go_grown; done) | exact bdrewN (by go_grown) _) hb2; (try simp at hz2); clear hb2))
      all_goals refine bodyPost_ret (by simp [results, Try.results21, go_sem, *] <;> rfl) rfl ?_
      all_goals exact ⟨by rw [EE.out, EV.out], by first | exact (by first | with_reducible exact B3 | (go_grown; done) | with_reducible exact bdrewN B3 _ | (go_grown <;> first | with_reducible exact bdrewN B3 _ | with_reducible exact B3)) | exact (by first | with_reducible exact B2 | (go_grown; done) | with_reducible exact bdrewN B2 _ | (go_grown <;> first | with_reducible exact bdrewN B2 _ | with_reducible exact B2)) | exact (by first | with_reducible exact B1 | (go_grown; done) | with_reducible exact bdrewN B1 _ | (go_grown <;> first | with_reducible exact bdrewN B1 _ | with_reducible exact B1))⟩
  rcases Bool.eq_false_or_eq_true (alB si si') with ha | ha
  · have L8 := Lib.hid (show ∀ w, ProfAt w A1 c1 A2 c2 ds ss → Calls Try.prog 45 #[profV A1 ds.length c1 A2 ss.length c2, .int .i64 src, dirV co si hy, dirV co' si' hy', .int .i64 n] w fun e w' => e = .returned (.int .i64 0) ∧ Below w.heap.size w w' from fun w h => by have q := l08Code_any A1 A2 c1 c2 ds ss src co si hy co' si' hy' n w h; rw [(l8_ok hc ha)] at q; exact q)
    rcases Bool.eq_false_or_eq_true (rcB ds.length knot dist) with hr | hr
    · have RV := Lib.hid (show ∀ w, Calls Try.prog 59 #[profV A1 ds.length c1 A2 ss.length c2, .int .i64 knot, .int .i64 dist] w fun e w' => e = .returned (.bool true) ∧ Below w.heap.size w w' from fun w => by have q := l08Target_any A1 A2 ds.length ss.length c1 c2 knot dist w hnl; rw [hr] at q; exact q)
      obtain ⟨r, r', m, rfl, hm⟩ := ce_zero hc
      have ee := cve_ok hc hr ha
      have hs := al_eq ha
      have EE := Lib.hid ee.1; have EV := Lib.hid ee.2; clear ee
      have RR := Lib.hid r; have RQ := Lib.hid r'; have HS := Lib.hid hs; have HC := Lib.hid hc; clear r r' hs hc
      go_enter Try.func21, Try.ntmps21
      go_wp2_with fail
      (refine (L8.out _ (H.out.below (B := w.heap.size) (by first | exact Below.refl _ _ | (go_grown; done) | exact bdrewN (by go_grown) _) (Nat.le_refl _))).mono ?_; rintro e w1 ⟨rfl, hb1⟩; obtain ⟨B1, hz1, q1, s1, t1, x1, y1, z1⟩ := bkeep (w := w) [w.heap.size, w.heap.size + 1, w.heap.size + 1 + 1] (by first | (simp; done) | (simp; omega)) (by first | (go_grown; done) | exact bdrewN (by go_grown) _) hb1; (try simp at hz1); clear hb1)
      go_wp2_with fail
      (refine (RV.out _).mono ?_; rintro e w2 ⟨rfl, hb2⟩; obtain ⟨B2, hz2, q2, s2, t2, x2, y2, z2⟩ := bkeep (w := w) [w.heap.size, w.heap.size + 1, w.heap.size + 1 + 1] (by first | (simp; done) | (simp; omega)) (by first | (go_grown; done) | exact bdrewN (by go_grown) _) hb2; (try simp at hz2); clear hb2)
      go_wp2_with fail
      refine (l08Trace_any A1 A2 c1 c2 ds ss src co si hy co' si' hy' m _ (H.out.below (B := w.heap.size) (by first | exact Below.refl _ _ | (go_grown; done) | exact bdrewN (by go_grown) _) (Nat.le_refl _)) RR.out RQ.out HS.out hm).mono ?_
      rintro e w3 ⟨rfl, hb3⟩
      obtain ⟨B3, hz3, q3, s3, t3, x3, y3, z3⟩ := bkeep (w := w) [w.heap.size, w.heap.size + 1, w.heap.size + 1 + 1] (by first | (simp; done) | (simp; omega)) (by first | (go_grown; done) | exact bdrewN (by go_grown) _) hb3; (try simp at hz3); clear hb3
      go_wp2_with fail
      refine (l08Verdict_any _ _ _ _ _ knot dist _).mono ?_
      rintro e w4 ⟨rfl, hb4⟩
      obtain ⟨B4, hz4, q4, s4, t4, x4, y4, z4⟩ := bkeep (w := w) [w.heap.size, w.heap.size + 1, w.heap.size + 1 + 1] (by first | (simp; done) | (simp; omega)) (by first | (go_grown; done) | exact bdrewN (by go_grown) _) hb4; (try simp at hz4); clear hb4
      go_wp2
      refine bodyPost_ret (by simp [results, Try.results21, go_sem, *] <;> rfl) rfl ?_
      exact ⟨by rw [EE.out, EV.out] <;> rfl, (by first | with_reducible exact B4 | (go_grown; done) | with_reducible exact bdrewN B4 _ | (go_grown <;> first | with_reducible exact bdrewN B4 _ | with_reducible exact B4))⟩
    · have ee := cve_far hc hr
      have RV := Lib.hid (show ∀ w, Calls Try.prog 59 #[profV A1 ds.length c1 A2 ss.length c2, .int .i64 knot, .int .i64 dist] w fun e w' => e = .returned (.bool false) ∧ Below w.heap.size w w' from fun w => by have q := l08Target_any A1 A2 ds.length ss.length c1 c2 knot dist w hnl; rw [hr] at q; exact q)
      have EE := Lib.hid ee.1; have EV := Lib.hid ee.2; clear ee
      go_enter Try.func21, Try.ntmps21
      go_wp2_with (first
      | (go_at_call 45; refine (L8.out _ (H.out.below (B := w.heap.size) (by first | exact Below.refl _ _ | (go_grown; done) | exact bdrewN (by go_grown) _) (Nat.le_refl _))).mono ?_; rintro e w1 ⟨rfl, hb1⟩; obtain ⟨B1, hz1, q1, s1, t1, x1, y1, z1⟩ := bkeep (w := w) [w.heap.size, w.heap.size + 1, w.heap.size + 1 + 1] (by first | (simp; done) | (simp; omega)) (by first | (go_grown; done) | exact bdrewN (by go_grown) _) hb1; (try simp at hz1); clear hb1)
      | (go_at_call 59; refine (RV.out _).mono ?_; rintro e w2 ⟨rfl, hb2⟩; obtain ⟨B2, hz2, q2, s2, t2, x2, y2, z2⟩ := bkeep (w := w) [w.heap.size, w.heap.size + 1, w.heap.size + 1 + 1] (by first | (simp; done) | (simp; omega)) (by first | (go_grown; done) | exact bdrewN (by go_grown) _) hb2; (try simp at hz2); clear hb2))
      all_goals refine bodyPost_ret (by simp [results, Try.results21, go_sem, *] <;> rfl) rfl ?_
      all_goals exact ⟨by rw [EE.out, EV.out], by first | exact (by first | with_reducible exact B3 | (go_grown; done) | with_reducible exact bdrewN B3 _ | (go_grown <;> first | with_reducible exact bdrewN B3 _ | with_reducible exact B3)) | exact (by first | with_reducible exact B2 | (go_grown; done) | with_reducible exact bdrewN B2 _ | (go_grown <;> first | with_reducible exact bdrewN B2 _ | with_reducible exact B2)) | exact (by first | with_reducible exact B1 | (go_grown; done) | with_reducible exact bdrewN B1 _ | (go_grown <;> first | with_reducible exact bdrewN B1 _ | with_reducible exact B1))⟩
  · have L8 := Lib.hid (show ∀ w, ProfAt w A1 c1 A2 c2 ds ss → Calls Try.prog 45 #[profV A1 ds.length c1 A2 ss.length c2, .int .i64 src, dirV co si hy, dirV co' si' hy', .int .i64 n] w fun e w' => e = .returned (.int .i64 5) ∧ Below w.heap.size w w' from fun w h => by have q := l08Code_any A1 A2 c1 c2 ds ss src co si hy co' si' hy' n w h; rw [(cr_unlike hc ha).2.2.2] at q; exact q)
    rcases Bool.eq_false_or_eq_true (rcB ds.length knot dist) with hr | hr
    · have ee := cve_unlike hc hr ha
      have RV := Lib.hid (show ∀ w, Calls Try.prog 59 #[profV A1 ds.length c1 A2 ss.length c2, .int .i64 knot, .int .i64 dist] w fun e w' => e = .returned (.bool true) ∧ Below w.heap.size w w' from fun w => by have q := l08Target_any A1 A2 ds.length ss.length c1 c2 knot dist w hnl; rw [hr] at q; exact q)
      have EE := Lib.hid ee.1; have EV := Lib.hid ee.2; clear ee
      go_enter Try.func21, Try.ntmps21
      go_wp2_with (first
      | (go_at_call 45; refine (L8.out _ (H.out.below (B := w.heap.size) (by first | exact Below.refl _ _ | (go_grown; done) | exact bdrewN (by go_grown) _) (Nat.le_refl _))).mono ?_; rintro e w1 ⟨rfl, hb1⟩; obtain ⟨B1, hz1, q1, s1, t1, x1, y1, z1⟩ := bkeep (w := w) [w.heap.size, w.heap.size + 1, w.heap.size + 1 + 1] (by first | (simp; done) | (simp; omega)) (by first | (go_grown; done) | exact bdrewN (by go_grown) _) hb1; (try simp at hz1); clear hb1)
      | (go_at_call 59; refine (RV.out _).mono ?_; rintro e w2 ⟨rfl, hb2⟩; obtain ⟨B2, hz2, q2, s2, t2, x2, y2, z2⟩ := bkeep (w := w) [w.heap.size, w.heap.size + 1, w.heap.size + 1 + 1] (by first | (simp; done) | (simp; omega)) (by first | (go_grown; done) | exact bdrewN (by go_grown) _) hb2; (try simp at hz2); clear hb2))
      all_goals refine bodyPost_ret (by simp [results, Try.results21, go_sem, *] <;> rfl) rfl ?_
      all_goals exact ⟨by rw [EE.out, EV.out], by first | exact (by first | with_reducible exact B3 | (go_grown; done) | with_reducible exact bdrewN B3 _ | (go_grown <;> first | with_reducible exact bdrewN B3 _ | with_reducible exact B3)) | exact (by first | with_reducible exact B2 | (go_grown; done) | with_reducible exact bdrewN B2 _ | (go_grown <;> first | with_reducible exact bdrewN B2 _ | with_reducible exact B2)) | exact (by first | with_reducible exact B1 | (go_grown; done) | with_reducible exact bdrewN B1 _ | (go_grown <;> first | with_reducible exact bdrewN B1 _ | with_reducible exact B1))⟩
    · have ee := cve_far hc hr
      have RV := Lib.hid (show ∀ w, Calls Try.prog 59 #[profV A1 ds.length c1 A2 ss.length c2, .int .i64 knot, .int .i64 dist] w fun e w' => e = .returned (.bool false) ∧ Below w.heap.size w w' from fun w => by have q := l08Target_any A1 A2 ds.length ss.length c1 c2 knot dist w hnl; rw [hr] at q; exact q)
      have EE := Lib.hid ee.1; have EV := Lib.hid ee.2; clear ee
      go_enter Try.func21, Try.ntmps21
      go_wp2_with (first
      | (go_at_call 45; refine (L8.out _ (H.out.below (B := w.heap.size) (by first | exact Below.refl _ _ | (go_grown; done) | exact bdrewN (by go_grown) _) (Nat.le_refl _))).mono ?_; rintro e w1 ⟨rfl, hb1⟩; obtain ⟨B1, hz1, q1, s1, t1, x1, y1, z1⟩ := bkeep (w := w) [w.heap.size, w.heap.size + 1, w.heap.size + 1 + 1] (by first | (simp; done) | (simp; omega)) (by first | (go_grown; done) | exact bdrewN (by go_grown) _) hb1; (try simp at hz1); clear hb1)
      | (go_at_call 59; refine (RV.out _).mono ?_; rintro e w2 ⟨rfl, hb2⟩; obtain ⟨B2, hz2, q2, s2, t2, x2, y2, z2⟩ := bkeep (w := w) [w.heap.size, w.heap.size + 1, w.heap.size + 1 + 1] (by first | (simp; done) | (simp; omega)) (by first | (go_grown; done) | exact bdrewN (by go_grown) _) hb2; (try simp at hz2); clear hb2))
      all_goals refine bodyPost_ret (by simp [results, Try.results21, go_sem, *] <;> rfl) rfl ?_
      all_goals exact ⟨by rw [EE.out, EV.out], by first | exact (by first | with_reducible exact B3 | (go_grown; done) | with_reducible exact bdrewN B3 _ | (go_grown <;> first | with_reducible exact bdrewN B3 _ | with_reducible exact B3)) | exact (by first | with_reducible exact B2 | (go_grown; done) | with_reducible exact bdrewN B2 _ | (go_grown <;> first | with_reducible exact bdrewN B2 _ | with_reducible exact B2)) | exact (by first | with_reducible exact B1 | (go_grown; done) | with_reducible exact bdrewN B1 _ | (go_grown <;> first | with_reducible exact bdrewN B1 _ | with_reducible exact B1))⟩
end Go.Proofs.Ytopggkomkfjbfaa
