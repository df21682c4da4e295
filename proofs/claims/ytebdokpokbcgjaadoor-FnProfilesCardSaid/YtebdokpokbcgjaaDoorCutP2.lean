/- A profile cut at a knot: what CutProfile returns, by the program and by the reference. -/
import Derived.Test.YtebdokpokbcgjaaDoorCutP
import Derived.IntWalk
namespace Go.Proofs.YtebdokpokbcgjaaDoor
set_option linter.unusedSimpArgs false
set_option linter.unusedVariables false
open Go.RowKit

set_option maxRecDepth 100000 in
set_option maxHeartbeats 2000000 in
theorem implCutProfile_any (A1 A2 : Option Addr) (c1 c2 : Nat) (ds ss : List Int) (k : Int) (w : World) (h : ProfAt w A1 c1 A2 c2 ds ss) :
    Calls Tryd.prog 40 #[profV A1 ds.length c1 A2 ss.length c2, .int .i64 k] w fun e w' => (∃ B1 d1 B2 d2, e = .returned (.tuple #[profV B1 (ctD ds ss k).length d1 B2 (ctS ds ss k).length d2, .int .i64 (ctC ds ss k)]) ∧ ResP w' w.heap.size w'.heap.size B1 d1 B2 d2 (ctD ds ss k) (ctS ds ss k)) ∧ Below w.heap.size w w' := by
  have hc1 := h.1.1; have hc2 := h.2.1
  have hm1 := h.1.2.1; have hm2 := h.2.2.1
  by_cases h0 : knotE ds ss k 0 = 0
  · have hE : (knotE ds ss k 0 != 0) = false := by rw [h0]; rfl
    have hE2 : (knotE ds ss k 0 == 0) = true := by rw [h0]; rfl
    obtain ⟨hv, k0, k1⟩ := knot_ok h0
    obtain ⟨l1, l2, l3, l4⟩ := prof_len hv
    by_cases hkz : k = 0
    · subst hkz
      obtain ⟨e1, e2, e3⟩ := ct_zero h0
      have H := Lib.hid h; have E1 := Lib.hid e1; have E2 := Lib.hid e2; have E3 := Lib.hid e3; clear h e1 e2 e3 h0
      go_enter Tryd.func40, Tryd.ntmps40
      go_wp2_with (go_at_call 81; refine (knotCode_any _ _ _ _ _ _ _ _ ⟨(H.out.1.below (B := w.heap.size) (by first | exact Below.refl _ _ | (go_grown; done) | exact bdrewN (by go_grown) _) (Nat.le_refl _)), (H.out.2.below (B := w.heap.size) (by first | exact Below.refl _ _ | (go_grown; done) | exact bdrewN (by go_grown) _) (Nat.le_refl _))⟩).mono ?_; rintro e w1 ⟨rfl, hb1⟩; obtain ⟨B1, hz1, q1, s1, t1, x1, y1, z1⟩ := bkeep (w := w) [w.heap.size, w.heap.size + 1] (by first | (simp; done) | (simp; omega)) (by first | (go_grown; done) | exact bdrewN (by go_grown) _) hb1; (try simp at hz1); clear hb1)
      have d0 : w1.cell? ⟨w.heap.size + 1, 0, none⟩ = some (.slice none 0 0) := by simp [*, go_sem]
      have d1 : w1.cell? ⟨w.heap.size + 1, 1, none⟩ = some (.slice none 0 0) := by simp [*, go_sem]
      clear q1
      refine bodyPost_ret (by simp [results, Tryd.results40, go_sem, *] <;> rfl) rfl ?_
      exact ⟨⟨none, 0, none, 0, by rw [E1.out, E2.out, E3.out]; rfl, by rw [E2.out, E3.out]; exact ResP.nil _ _ _ _ _⟩, (by first | with_reducible exact B1 | (go_grown; done) | with_reducible exact bdrewN B1 _ | (go_grown <;> first | with_reducible exact bdrewN B1 _ | with_reducible exact B1))⟩
    · obtain ⟨m, rfl⟩ := Int.eq_ofNat_of_zero_le k0
      have hm : m ≠ 0 := by omega
      obtain ⟨e1, e2, e3⟩ := ct_ok h0 hm
      have hmz : ((m : Int) == 0) = false := beq_eq_false_iff_ne.2 (by omega)
      have n1 : m + 1 = (ds.take (m + 1)).length := by rw [List.length_take]; omega
      have n2 : m + 1 = (ss.take (m + 1)).length := by rw [List.length_take]; omega
      have dl : (ctD ds ss m).length = m + 1 := by rw [e2]; exact n1.symm
      have sl : (ctS ds ss m).length = m + 1 := by rw [e3]; exact n2.symm
      obtain ⟨b1, o1, x1', rfl, hb1, -, -⟩ := at_zero h.1 (by omega)
      obtain ⟨b2, o2, x2', rfl, hb2, -, -⟩ := at_zero h.2 (by omega)
      have H := Lib.hid h; have E1 := Lib.hid e1; have E2 := Lib.hid e2; have E3 := Lib.hid e3; have N1 := Lib.hid n1; have N2 := Lib.hid n2; have DL := Lib.hid dl; have SL := Lib.hid sl; clear h e1 e2 e3 h0 n1 n2 dl sl
      have kk0 : (0 : Int) ≤ (m : Int) + 1 := by omega
      have kk1 : (m : Int) + 1 ≤ (c1 : Int) := by omega
      have kk2 : (m : Int) + 1 ≤ (c2 : Int) := by omega
      have kk3 : m + 1 ≤ c1 := by omega
      have kk4 : m + 1 ≤ c2 := by omega
      have kk7 : ((m : Int) + 1).toNat = m + 1 := by omega
      go_enter Tryd.func40, Tryd.ntmps40
      go_wp2_with (go_at_call 81; refine (knotCode_any _ _ _ _ _ _ _ _ ⟨(H.out.1.below (B := w.heap.size) (by first | exact Below.refl _ _ | (go_grown; done) | exact bdrewN (by go_grown) _) (Nat.le_refl _)), (H.out.2.below (B := w.heap.size) (by first | exact Below.refl _ _ | (go_grown; done) | exact bdrewN (by go_grown) _) (Nat.le_refl _))⟩).mono ?_; rintro e w1 ⟨rfl, hb1⟩; obtain ⟨B1, hz1, q1, s1, t1, x1, y1, z1⟩ := bkeep (w := w) [w.heap.size, w.heap.size + 1] (by first | (simp; done) | (simp; omega)) (by first | (go_grown; done) | exact bdrewN (by go_grown) _) hb1; (try simp at hz1); clear hb1)
      refine genS (S := fun w' => Below w.heap.size w w' ∧ w.heap.size + 1 < w'.heap.size ∧ (∀ o, w'.frozen? ⟨w.heap.size + 1, o, none⟩ = false) ∧ w'.cell? ⟨w.heap.size, 0, none⟩ = some (.slice (some ⟨b1, o1, none⟩) ds.length c1) ∧ w'.cell? ⟨w.heap.size, 1, none⟩ = some (.slice (some ⟨b2, o2, none⟩) ss.length c2) ∧ w'.cell? ⟨w.heap.size + 1, 0, none⟩ = some (.slice none 0 0) ∧ w'.cell? ⟨w.heap.size + 1, 1, none⟩ = some (.slice none 0 0)) ⟨(by first | with_reducible exact B1 | (go_grown; done) | with_reducible exact bdrewN B1 _ | (go_grown <;> first | with_reducible exact bdrewN B1 _ | with_reducible exact B1)), x1 _ (by simp), fun o => by simp [*, go_sem], by simp [*, go_sem], by simp [*, go_sem], by simp [*, go_sem], by simp [*, go_sem]⟩ ?_
      rintro w3 ⟨B3, lt3, fz3, r0, r1, r2, r3⟩
      clear q1 s1 t1 x1 y1
      have z3 : w.heap.size ≤ w3.heap.size := B3.size
      have H1 := Lib.hid (H.out.1.take (m + 1)); have H2 := Lib.hid (H.out.2.take (m + 1))
      have W0 : IntKind.i64.wrap ((m : Int) + 1) = (m : Int) + 1 := IntWalk.i64_in _ (by omega)
      go_region_held3 (fun w' => w'.cell? ⟨w.heap.size, 0, none⟩ = some (.slice (some ⟨b1, o1, none⟩) ds.length c1) ∧ w'.cell? ⟨w.heap.size, 1, none⟩ = some (.slice (some ⟨b2, o2, none⟩) ss.length c2)) (first | (go_keep; done) | (simp [*, go_sem]; done))
        (first
          | (have hq_ := B4; go_at_call 82; refine (clone_any _ _ (m + 1) (ss.take (m + 1)) _ ((H2.out.below (B := w.heap.size) (by first | exact Below.refl _ _ | (go_grown; done) | exact bdrewN (by go_grown) _) (Nat.le_refl _))) N2.out (by omega) (by omega)).mono ?_; rintro e w5 ⟨⟨A5, c5, rfl, R5⟩, hb5⟩; have K5 := Lib.hid hb5; have KR5 := Lib.hid R5; clear R5; obtain ⟨B5, hz5, q5, s5, t5, x5, y5, z5⟩ := bkeep (w := w) [w.heap.size, w.heap.size + 1] (by first | (simp; done) | (simp; omega)) (by first | (go_grown; done) | exact bdrewN (by go_grown) _) hb5; (try simp at hz5); clear hb5)
          | (go_at_call 82; refine (clone_any _ _ (m + 1) (ds.take (m + 1)) _ ((H1.out.below (B := w.heap.size) (by first | exact Below.refl _ _ | (go_grown; done) | exact bdrewN (by go_grown) _) (Nat.le_refl _))) N1.out (by omega) (by omega)).mono ?_; rintro e w4 ⟨⟨A4, c4, rfl, R4⟩, hb4⟩; have KR4 := Lib.hid R4; clear R4; obtain ⟨B4, hz4, q4, s4, t4, x4, y4, z4⟩ := bkeep (w := w) [w.heap.size, w.heap.size + 1] (by first | (simp; done) | (simp; omega)) (by first | (go_grown; done) | exact bdrewN (by go_grown) _) hb4; (try simp at hz4); clear hb4))
      clear W0
      go_wp2
      refine bodyPost_ret (by simp [results, Tryd.results40, go_sem, *] <;> rfl) rfl ?_
      have e4 := KR4.out; have e5 := KR5.out; have e6 := K5.out
      simp only [World.size_drew] at e4 e5 e6
      refine ⟨⟨A4, c4, A5, c5, by rw [E1.out, DL.out, SL.out], ?_⟩, (by first | with_reducible exact B5 | (go_grown; done) | with_reducible exact bdrewN B5 _ | (go_grown <;> first | with_reducible exact bdrewN B5 _ | with_reducible exact B5))⟩
      rw [E2.out, E3.out]
      exact ResP.mk_ (((e4.below e6 (Nat.le_refl _)).kept (((Keep.refl _ _ _).set (by simp; omega) _).set (by simp; omega) _)).mono z3 (Nat.le_refl _)) ((e5.kept (((Keep.refl _ _ _).set (by simp; omega) _).set (by simp; omega) _)).mono (Nat.le_refl _) (by simp only [size_set]; omega)) (by omega) (by simp only [size_set]; omega)
  · obtain ⟨e1, e2, e3⟩ := ct_bad h0
    have hE : (knotE ds ss k 0 != 0) = true := by simpa using h0
    have hE2 : (knotE ds ss k 0 == 0) = false := by simpa using h0
    have H := Lib.hid h; have E1 := Lib.hid e1; have E2 := Lib.hid e2; have E3 := Lib.hid e3; clear h e1 e2 e3 h0
    go_enter Tryd.func40, Tryd.ntmps40
    go_wp2_with (go_at_call 81; refine (knotCode_any _ _ _ _ _ _ _ _ ⟨(H.out.1.below (B := w.heap.size) (by first | exact Below.refl _ _ | (go_grown; done) | exact bdrewN (by go_grown) _) (Nat.le_refl _)), (H.out.2.below (B := w.heap.size) (by first | exact Below.refl _ _ | (go_grown; done) | exact bdrewN (by go_grown) _) (Nat.le_refl _))⟩).mono ?_; rintro e w1 ⟨rfl, hb1⟩; obtain ⟨B1, hz1, q1, s1, t1, x1, y1, z1⟩ := bkeep (w := w) [w.heap.size, w.heap.size + 1] (by first | (simp; done) | (simp; omega)) (by first | (go_grown; done) | exact bdrewN (by go_grown) _) hb1; (try simp at hz1); clear hb1)
    have d0 : w1.cell? ⟨w.heap.size + 1, 0, none⟩ = some (.slice none 0 0) := by simp [*, go_sem]
    have d1 : w1.cell? ⟨w.heap.size + 1, 1, none⟩ = some (.slice none 0 0) := by simp [*, go_sem]
    clear q1
    refine bodyPost_ret (by simp [results, Tryd.results40, go_sem, *] <;> rfl) rfl ?_
    exact ⟨⟨none, 0, none, 0, by rw [E1.out, E2.out, E3.out]; rfl, by rw [E2.out, E3.out]; exact ResP.nil _ _ _ _ _⟩, (by first | with_reducible exact B1 | (go_grown; done) | with_reducible exact bdrewN B1 _ | (go_grown <;> first | with_reducible exact bdrewN B1 _ | with_reducible exact B1))⟩
set_option maxRecDepth 100000 in
set_option maxHeartbeats 2000000 in
theorem specCutProfile_any (A1 A2 : Option Addr) (c1 c2 : Nat) (ds ss : List Int) (k : Int) (w : World) (h : ProfAt w A1 c1 A2 c2 ds ss) :
    Calls Tryd.prog 41 #[profV A1 ds.length c1 A2 ss.length c2, .int .i64 k] w fun e w' => (∃ B1 d1 B2 d2, e = .returned (.tuple #[profV B1 (ctD ds ss k).length d1 B2 (ctS ds ss k).length d2, .int .i64 (ctC ds ss k)]) ∧ ResP w' w.heap.size w'.heap.size B1 d1 B2 d2 (ctD ds ss k) (ctS ds ss k)) ∧ Below w.heap.size w w' := by
  have hc1 := h.1.1; have hc2 := h.2.1
  have hm1 := h.1.2.1; have hm2 := h.2.2.1
  by_cases h0 : knotE ds ss k 0 = 0
  · have hE : (knotE ds ss k 0 != 0) = false := by rw [h0]; rfl
    have hE2 : (knotE ds ss k 0 == 0) = true := by rw [h0]; rfl
    obtain ⟨hv, k0, k1⟩ := knot_ok h0
    obtain ⟨l1, l2, l3, l4⟩ := prof_len hv
    by_cases hkz : k = 0
    · subst hkz
      obtain ⟨e1, e2, e3⟩ := ct_zero h0
      have H := Lib.hid h; have E1 := Lib.hid e1; have E2 := Lib.hid e2; have E3 := Lib.hid e3; clear h e1 e2 e3 h0
      go_enter Tryd.func41, Tryd.ntmps41
      go_wp2_with (go_at_call 83; refine (l04Knot_any _ _ _ _ _ _ _ _ _ ⟨(H.out.1.below (B := w.heap.size) (by first | exact Below.refl _ _ | (go_grown; done) | exact bdrewN (by go_grown) _) (Nat.le_refl _)), (H.out.2.below (B := w.heap.size) (by first | exact Below.refl _ _ | (go_grown; done) | exact bdrewN (by go_grown) _) (Nat.le_refl _))⟩ (by omega) (by omega)).mono ?_; rintro e w1 ⟨rfl, hb1⟩; obtain ⟨B1, hz1, q1, s1, t1, x1, y1, z1⟩ := bkeep (w := w) [w.heap.size, w.heap.size + 1] (by first | (simp; done) | (simp; omega)) (by first | (go_grown; done) | exact bdrewN (by go_grown) _) hb1; (try simp at hz1); clear hb1)
      have d0 : w1.cell? ⟨w.heap.size + 1, 0, none⟩ = some (.slice none 0 0) := by simp [*, go_sem]
      have d1 : w1.cell? ⟨w.heap.size + 1, 1, none⟩ = some (.slice none 0 0) := by simp [*, go_sem]
      clear q1
      refine bodyPost_ret (by simp [results, Tryd.results41, go_sem, *] <;> rfl) rfl ?_
      exact ⟨⟨none, 0, none, 0, by rw [E1.out, E2.out, E3.out]; rfl, by rw [E2.out, E3.out]; exact ResP.nil _ _ _ _ _⟩, (by first | with_reducible exact B1 | (go_grown; done) | with_reducible exact bdrewN B1 _ | (go_grown <;> first | with_reducible exact bdrewN B1 _ | with_reducible exact B1))⟩
    · obtain ⟨m, rfl⟩ := Int.eq_ofNat_of_zero_le k0
      have hm : m ≠ 0 := by omega
      obtain ⟨e1, e2, e3⟩ := ct_ok h0 hm
      have hmz : ((m : Int) == 0) = false := beq_eq_false_iff_ne.2 (by omega)
      have n1 : m + 1 = (ds.take (m + 1)).length := by rw [List.length_take]; omega
      have n2 : m + 1 = (ss.take (m + 1)).length := by rw [List.length_take]; omega
      have dl : (ctD ds ss m).length = m + 1 := by rw [e2]; exact n1.symm
      have sl : (ctS ds ss m).length = m + 1 := by rw [e3]; exact n2.symm
      obtain ⟨b1, o1, x1', rfl, hb1, -, -⟩ := at_zero h.1 (by omega)
      obtain ⟨b2, o2, x2', rfl, hb2, -, -⟩ := at_zero h.2 (by omega)
      have H := Lib.hid h; have E1 := Lib.hid e1; have E2 := Lib.hid e2; have E3 := Lib.hid e3; have N1 := Lib.hid n1; have N2 := Lib.hid n2; have DL := Lib.hid dl; have SL := Lib.hid sl; clear h e1 e2 e3 h0 n1 n2 dl sl
      have kk0 : (0 : Int) ≤ (m : Int) + 1 := by omega
      have kk1 : (m : Int) + 1 ≤ (c1 : Int) := by omega
      have kk2 : (m : Int) + 1 ≤ (c2 : Int) := by omega
      have kk3 : m + 1 ≤ c1 := by omega
      have kk4 : m + 1 ≤ c2 := by omega
      have kk7 : ((m : Int) + 1).toNat = m + 1 := by omega
      go_enter Tryd.func41, Tryd.ntmps41
      go_wp2_with (go_at_call 83; refine (l04Knot_any _ _ _ _ _ _ _ _ _ ⟨(H.out.1.below (B := w.heap.size) (by first | exact Below.refl _ _ | (go_grown; done) | exact bdrewN (by go_grown) _) (Nat.le_refl _)), (H.out.2.below (B := w.heap.size) (by first | exact Below.refl _ _ | (go_grown; done) | exact bdrewN (by go_grown) _) (Nat.le_refl _))⟩ (by omega) (by omega)).mono ?_; rintro e w1 ⟨rfl, hb1⟩; obtain ⟨B1, hz1, q1, s1, t1, x1, y1, z1⟩ := bkeep (w := w) [w.heap.size, w.heap.size + 1] (by first | (simp; done) | (simp; omega)) (by first | (go_grown; done) | exact bdrewN (by go_grown) _) hb1; (try simp at hz1); clear hb1)
      refine genS (S := fun w' => Below w.heap.size w w' ∧ w.heap.size + 1 < w'.heap.size ∧ (∀ o, w'.frozen? ⟨w.heap.size + 1, o, none⟩ = false) ∧ w'.cell? ⟨w.heap.size, 0, none⟩ = some (.slice (some ⟨b1, o1, none⟩) ds.length c1) ∧ w'.cell? ⟨w.heap.size, 1, none⟩ = some (.slice (some ⟨b2, o2, none⟩) ss.length c2) ∧ w'.cell? ⟨w.heap.size + 1, 0, none⟩ = some (.slice none 0 0) ∧ w'.cell? ⟨w.heap.size + 1, 1, none⟩ = some (.slice none 0 0)) ⟨(by first | with_reducible exact B1 | (go_grown; done) | with_reducible exact bdrewN B1 _ | (go_grown <;> first | with_reducible exact bdrewN B1 _ | with_reducible exact B1)), x1 _ (by simp), fun o => by simp [*, go_sem], by simp [*, go_sem], by simp [*, go_sem], by simp [*, go_sem], by simp [*, go_sem]⟩ ?_
      rintro w3 ⟨B3, lt3, fz3, r0, r1, r2, r3⟩
      clear q1 s1 t1 x1 y1
      have z3 : w.heap.size ≤ w3.heap.size := B3.size
      have H1 := Lib.hid (H.out.1.take (m + 1)); have H2 := Lib.hid (H.out.2.take (m + 1))
      have W0 : IntKind.i64.wrap ((m : Int) + 1) = (m : Int) + 1 := IntWalk.i64_in _ (by omega)
      go_region_held3 (fun w' => w'.cell? ⟨w.heap.size, 0, none⟩ = some (.slice (some ⟨b1, o1, none⟩) ds.length c1) ∧ w'.cell? ⟨w.heap.size, 1, none⟩ = some (.slice (some ⟨b2, o2, none⟩) ss.length c2)) (first | (go_keep; done) | (simp [*, go_sem]; done))
        (first
          | (have hq_ := B4; go_at_call 84; refine (l01Own_any _ _ (m + 1) (ss.take (m + 1)) _ ((H2.out.below (B := w.heap.size) (by first | exact Below.refl _ _ | (go_grown; done) | exact bdrewN (by go_grown) _) (Nat.le_refl _))) N2.out (by omega) (by omega)).mono ?_; rintro e w5 ⟨⟨A5, c5, rfl, R5⟩, hb5⟩; have K5 := Lib.hid hb5; have KR5 := Lib.hid R5; clear R5; obtain ⟨B5, hz5, q5, s5, t5, x5, y5, z5⟩ := bkeep (w := w) [w.heap.size, w.heap.size + 1] (by first | (simp; done) | (simp; omega)) (by first | (go_grown; done) | exact bdrewN (by go_grown) _) hb5; (try simp at hz5); clear hb5)
          | (go_at_call 84; refine (l01Own_any _ _ (m + 1) (ds.take (m + 1)) _ ((H1.out.below (B := w.heap.size) (by first | exact Below.refl _ _ | (go_grown; done) | exact bdrewN (by go_grown) _) (Nat.le_refl _))) N1.out (by omega) (by omega)).mono ?_; rintro e w4 ⟨⟨A4, c4, rfl, R4⟩, hb4⟩; have KR4 := Lib.hid R4; clear R4; obtain ⟨B4, hz4, q4, s4, t4, x4, y4, z4⟩ := bkeep (w := w) [w.heap.size, w.heap.size + 1] (by first | (simp; done) | (simp; omega)) (by first | (go_grown; done) | exact bdrewN (by go_grown) _) hb4; (try simp at hz4); clear hb4))
      clear W0
      go_wp2
      refine bodyPost_ret (by simp [results, Tryd.results41, go_sem, *] <;> rfl) rfl ?_
      have e4 := KR4.out; have e5 := KR5.out; have e6 := K5.out
      simp only [World.size_drew] at e4 e5 e6
      refine ⟨⟨A4, c4, A5, c5, by rw [E1.out, DL.out, SL.out], ?_⟩, (by first | with_reducible exact B5 | (go_grown; done) | with_reducible exact bdrewN B5 _ | (go_grown <;> first | with_reducible exact bdrewN B5 _ | with_reducible exact B5))⟩
      rw [E2.out, E3.out]
      exact ResP.mk_ (((e4.below e6 (Nat.le_refl _)).kept (((Keep.refl _ _ _).set (by simp; omega) _).set (by simp; omega) _)).mono z3 (Nat.le_refl _)) ((e5.kept (((Keep.refl _ _ _).set (by simp; omega) _).set (by simp; omega) _)).mono (Nat.le_refl _) (by simp only [size_set]; omega)) (by omega) (by simp only [size_set]; omega)
  · obtain ⟨e1, e2, e3⟩ := ct_bad h0
    have hE : (knotE ds ss k 0 != 0) = true := by simpa using h0
    have hE2 : (knotE ds ss k 0 == 0) = false := by simpa using h0
    have H := Lib.hid h; have E1 := Lib.hid e1; have E2 := Lib.hid e2; have E3 := Lib.hid e3; clear h e1 e2 e3 h0
    go_enter Tryd.func41, Tryd.ntmps41
    go_wp2_with (go_at_call 83; refine (l04Knot_any _ _ _ _ _ _ _ _ _ ⟨(H.out.1.below (B := w.heap.size) (by first | exact Below.refl _ _ | (go_grown; done) | exact bdrewN (by go_grown) _) (Nat.le_refl _)), (H.out.2.below (B := w.heap.size) (by first | exact Below.refl _ _ | (go_grown; done) | exact bdrewN (by go_grown) _) (Nat.le_refl _))⟩ (by omega) (by omega)).mono ?_; rintro e w1 ⟨rfl, hb1⟩; obtain ⟨B1, hz1, q1, s1, t1, x1, y1, z1⟩ := bkeep (w := w) [w.heap.size, w.heap.size + 1] (by first | (simp; done) | (simp; omega)) (by first | (go_grown; done) | exact bdrewN (by go_grown) _) hb1; (try simp at hz1); clear hb1)
    have d0 : w1.cell? ⟨w.heap.size + 1, 0, none⟩ = some (.slice none 0 0) := by simp [*, go_sem]
    have d1 : w1.cell? ⟨w.heap.size + 1, 1, none⟩ = some (.slice none 0 0) := by simp [*, go_sem]
    clear q1
    refine bodyPost_ret (by simp [results, Tryd.results41, go_sem, *] <;> rfl) rfl ?_
    exact ⟨⟨none, 0, none, 0, by rw [E1.out, E2.out, E3.out]; rfl, by rw [E2.out, E3.out]; exact ResP.nil _ _ _ _ _⟩, (by first | with_reducible exact B1 | (go_grown; done) | with_reducible exact bdrewN B1 _ | (go_grown <;> first | with_reducible exact bdrewN B1 _ | with_reducible exact B1))⟩
end Go.Proofs.YtebdokpokbcgjaaDoor
