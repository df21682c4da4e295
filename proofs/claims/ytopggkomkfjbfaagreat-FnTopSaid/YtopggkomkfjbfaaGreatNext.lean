/- The layer to which a ray comes next, by the program and by the reference. -/
import Derived.Test.YtopggkomkfjbfaaGreatPass
namespace Go.Proofs.YtopggkomkfjbfaaGreat
set_option linter.unusedSimpArgs false
set_option linter.unusedVariables false
open Go.RowKit

/-- whether there is a next layer; its number -/
def inn (ds : List Int) (k : Int) (dn : Bool) : Bool := if dn then decide (k < (ds.length : Int) - 1) else decide (0 < k)
def layK (k : Int) (dn : Bool) : Int := if dn then k else k - 1
theorem lay_bd {ds ss : List Int} {src co si hy k : Int} {dn : Bool} (r : RayOk ds ss src co si hy) (k0 : 0 ≤ k) (k1 : k < ss.length) (h : inn ds k dn = true) : 0 ≤ layK k dn ∧ layK k dn + 1 < ss.length := by
  have := r.l2; have := r.l3
  cases dn
  · have : 0 < k := of_decide_eq_true h
    show 0 ≤ k - 1 ∧ k - 1 + 1 < _; omega
  · have : k < (ds.length : Int) - 1 := of_decide_eq_true h
    show 0 ≤ k ∧ k + 1 < _; omega
theorem near_lay (k : Int) (dn : Bool) : nearK (layK k dn) dn = k := by
  cases dn
  · show k - 1 + 1 = k; omega
  · rfl

set_option maxHeartbeats 2000000 in
theorem next_in_true (A1 A2 : Option Addr) (c1 c2 : Nat) (ds ss : List Int) (src co si hy k lo hi : Int) (w : World) (hn : ds.length ≤ 9223372036854775807) (hm : ds.length ≤ 12) (k0 : 0 ≤ k) (k1 : k < ds.length) (h : inn ds k true = true) :
    Calls Tryz.prog 77 #[rayV A1 ds.length c1 A2 ss.length c2 src co si hy, rsV k true lo hi] w fun e w' => e = .returned (.tuple #[arcV A1 ds.length c1 A2 ss.length c2 src co si hy (nearK (layK k true) true) (farK (layK k true) true), .bool true]) ∧ Below w.heap.size w w' := by
  have hd : decide (k < (ds.length : Int) - 1) = true := h
  have hl0 : 0 ≤ layK k true := by exact k0
  have hl1 : layK k true ≤ 100 := by show k ≤ 100; omega
  have hArc : ∀ w, Calls Tryz.prog 86 #[rayV A1 ds.length c1 A2 ss.length c2 src co si hy, .int .i64 (k), .bool true] w fun e w' => e = .returned (arcV A1 ds.length c1 A2 ss.length c2 src co si hy (nearK (layK k true) true) (farK (layK k true) true)) ∧ Below w.heap.size w w' := fun w => arc_any A1 A2 ds.length c1 ss.length c2 src co si hy (layK k true) true w hl0 hl1
  have HA := Lib.hid hArc; clear hArc hl0 hl1
  clear h
  go_enter Tryz.func77, Tryz.ntmps77
  go_wp2_with fail
  refine genS (S := fun w' => Below w.heap.size w w' ∧ w.heap.size + 1 + 1 < w'.heap.size ∧ (∀ o, w'.frozen? ⟨w.heap.size + 1 + 1, o, none⟩ = false) ∧ w'.cell? ⟨w.heap.size, 0, none⟩ = some (.slice A1 ds.length c1) ∧ w'.cell? ⟨w.heap.size, 1, none⟩ = some (.slice A2 ss.length c2) ∧ w'.cell? ⟨w.heap.size, 2, none⟩ = some (.int .i64 src) ∧ w'.cell? ⟨w.heap.size, 3, none⟩ = some (.int .i64 co) ∧ w'.cell? ⟨w.heap.size, 4, none⟩ = some (.int .i64 si) ∧ w'.cell? ⟨w.heap.size, 5, none⟩ = some (.int .i64 hy) ∧ w'.cell? ⟨w.heap.size + 1, 0, none⟩ = some (.int .i64 k) ∧ w'.cell? ⟨w.heap.size + 1, 1, none⟩ = some (.bool true) ∧ w'.cell? ⟨w.heap.size + 1, 2, none⟩ = some (.int .i64 lo) ∧ w'.cell? ⟨w.heap.size + 1, 3, none⟩ = some (.int .i64 hi) ∧ w'.cell? ⟨w.heap.size + 1 + 1, 0, none⟩ = some (.slice none 0 0) ∧ w'.cell? ⟨w.heap.size + 1 + 1, 1, none⟩ = some (.slice none 0 0) ∧ w'.cell? ⟨w.heap.size + 1 + 1, 2, none⟩ = some (.int .i64 0) ∧ w'.cell? ⟨w.heap.size + 1 + 1, 3, none⟩ = some (.int .i64 0) ∧ w'.cell? ⟨w.heap.size + 1 + 1, 4, none⟩ = some (.int .i64 0) ∧ w'.cell? ⟨w.heap.size + 1 + 1, 5, none⟩ = some (.int .i64 0) ∧ w'.cell? ⟨w.heap.size + 1 + 1, 6, none⟩ = some (.int .i64 0) ∧ w'.cell? ⟨w.heap.size + 1 + 1, 7, none⟩ = some (.int .i64 0)) ⟨by go_grown, by first | omega | (simp; done) | (simp; omega) | (have := x3 _ (by first | assumption | simp); omega) | (have hx_ := x3 (w.heap.size + 1 + 1) (by simp); simp; omega), fun o => by simp [*, go_sem], by simp [*, go_sem], by simp [*, go_sem], by simp [*, go_sem], by simp [*, go_sem], by simp [*, go_sem], by simp [*, go_sem], by simp [*, go_sem], by simp [*, go_sem], by simp [*, go_sem], by simp [*, go_sem], by simp [*, go_sem], by simp [*, go_sem], by simp [*, go_sem], by simp [*, go_sem], by simp [*, go_sem], by simp [*, go_sem], by simp [*, go_sem], by simp [*, go_sem]⟩ ?_
  rintro w3 ⟨B3, lt3_0, fz3, r3_0, r3_1, r3_2, r3_3, r3_4, r3_5, r3_6, r3_7, r3_8, r3_9, r3_10, r3_11, r3_12, r3_13, r3_14, r3_15, r3_16, r3_17⟩
  have z3 : w.heap.size ≤ w3.heap.size := B3.size
  go_region_held3 (fun w' => w'.cell? ⟨w.heap.size, 0, none⟩ = some (.slice A1 ds.length c1) ∧ w'.cell? ⟨w.heap.size, 1, none⟩ = some (.slice A2 ss.length c2) ∧ w'.cell? ⟨w.heap.size, 2, none⟩ = some (.int .i64 src) ∧ w'.cell? ⟨w.heap.size, 3, none⟩ = some (.int .i64 co) ∧ w'.cell? ⟨w.heap.size, 4, none⟩ = some (.int .i64 si) ∧ w'.cell? ⟨w.heap.size, 5, none⟩ = some (.int .i64 hy) ∧ w'.cell? ⟨w.heap.size + 1, 0, none⟩ = some (.int .i64 k) ∧ w'.cell? ⟨w.heap.size + 1, 1, none⟩ = some (.bool true) ∧ w'.cell? ⟨w.heap.size + 1, 2, none⟩ = some (.int .i64 lo) ∧ w'.cell? ⟨w.heap.size + 1, 3, none⟩ = some (.int .i64 hi)) (first | (go_keep; done) | (simp [*, go_sem]; done))
    (first
      | (go_at_call 64; refine (last_any _ _ _ _ _ _ _ hn).mono ?_; rintro e w4 ⟨rfl, hb4⟩; obtain ⟨B4, hz4, q4, s4, t4, x4, y4, z4⟩ := bkeep (w := w) [w.heap.size, w.heap.size + 1, w.heap.size + 2] (by first | (simp; done) | (simp; omega)) (by first | (go_grown; done) | exact bdrewN (by go_grown) _) hb4; (try simp at hz4); clear hb4))
  go_wp2_with (go_at_call 86; refine (HA.out _).mono ?_; rintro e w5 ⟨rfl, hb5⟩; obtain ⟨B5, hz5, q5, s5, t5, x5, y5, z5⟩ := bkeep (w := w) [w.heap.size, w.heap.size + 1, w.heap.size + 2] (by first | (simp; done) | (simp; omega)) (by first | (go_grown; done) | exact bdrewN (by go_grown) _) hb5; (try simp at hz5); clear hb5; have zc0 : w5.cell? ⟨w.heap.size + 1 + 1, 0, none⟩ = some (.slice none 0 0) := (by simp [*, go_sem]); have zc1 : w5.cell? ⟨w.heap.size + 1 + 1, 1, none⟩ = some (.slice none 0 0) := (by simp [*, go_sem]); have zc2 : w5.cell? ⟨w.heap.size + 1 + 1, 2, none⟩ = some (.int .i64 0) := (by simp [*, go_sem]); have zc3 : w5.cell? ⟨w.heap.size + 1 + 1, 3, none⟩ = some (.int .i64 0) := (by simp [*, go_sem]); have zc4 : w5.cell? ⟨w.heap.size + 1 + 1, 4, none⟩ = some (.int .i64 0) := (by simp [*, go_sem]); have zc5 : w5.cell? ⟨w.heap.size + 1 + 1, 5, none⟩ = some (.int .i64 0) := (by simp [*, go_sem]); have zc6 : w5.cell? ⟨w.heap.size + 1 + 1, 6, none⟩ = some (.int .i64 0) := (by simp [*, go_sem]); have zc7 : w5.cell? ⟨w.heap.size + 1 + 1, 7, none⟩ = some (.int .i64 0) := (by simp [*, go_sem]); have fz : ∀ o, w5.frozen? ⟨w.heap.size + 1 + 1, o, none⟩ = false := (fun o => by simp [*, go_sem]); clear q5 s5 q4 s4)
  refine bodyPost_ret (by simp [results, Tryz.results77, go_sem, *] <;> rfl) rfl ?_
  exact ⟨rfl, (by first | with_reducible exact B5 | (go_grown; done) | with_reducible exact bdrewN B5 _ | (go_grown <;> first | with_reducible exact bdrewN B5 _ | with_reducible exact B5))⟩
set_option maxHeartbeats 2000000 in
theorem next_out_true (A1 A2 : Option Addr) (c1 c2 : Nat) (ds ss : List Int) (src co si hy k lo hi : Int) (w : World) (hn : ds.length ≤ 9223372036854775807) (hm : ds.length ≤ 12) (k0 : 0 ≤ k) (k1 : k < ds.length) (h : inn ds k true = false) :
    Calls Tryz.prog 77 #[rayV A1 ds.length c1 A2 ss.length c2 src co si hy, rsV k true lo hi] w fun e w' => e = .returned (.tuple #[zarc, .bool false]) ∧ Below w.heap.size w w' := by
  have hd : decide (k < (ds.length : Int) - 1) = false := h
  clear h
  go_enter Tryz.func77, Tryz.ntmps77
  go_wp2_with fail
  refine genS (S := fun w' => Below w.heap.size w w' ∧ w.heap.size + 1 + 1 < w'.heap.size ∧ (∀ o, w'.frozen? ⟨w.heap.size + 1 + 1, o, none⟩ = false) ∧ w'.cell? ⟨w.heap.size, 0, none⟩ = some (.slice A1 ds.length c1) ∧ w'.cell? ⟨w.heap.size, 1, none⟩ = some (.slice A2 ss.length c2) ∧ w'.cell? ⟨w.heap.size, 2, none⟩ = some (.int .i64 src) ∧ w'.cell? ⟨w.heap.size, 3, none⟩ = some (.int .i64 co) ∧ w'.cell? ⟨w.heap.size, 4, none⟩ = some (.int .i64 si) ∧ w'.cell? ⟨w.heap.size, 5, none⟩ = some (.int .i64 hy) ∧ w'.cell? ⟨w.heap.size + 1, 0, none⟩ = some (.int .i64 k) ∧ w'.cell? ⟨w.heap.size + 1, 1, none⟩ = some (.bool true) ∧ w'.cell? ⟨w.heap.size + 1, 2, none⟩ = some (.int .i64 lo) ∧ w'.cell? ⟨w.heap.size + 1, 3, none⟩ = some (.int .i64 hi) ∧ w'.cell? ⟨w.heap.size + 1 + 1, 0, none⟩ = some (.slice none 0 0) ∧ w'.cell? ⟨w.heap.size + 1 + 1, 1, none⟩ = some (.slice none 0 0) ∧ w'.cell? ⟨w.heap.size + 1 + 1, 2, none⟩ = some (.int .i64 0) ∧ w'.cell? ⟨w.heap.size + 1 + 1, 3, none⟩ = some (.int .i64 0) ∧ w'.cell? ⟨w.heap.size + 1 + 1, 4, none⟩ = some (.int .i64 0) ∧ w'.cell? ⟨w.heap.size + 1 + 1, 5, none⟩ = some (.int .i64 0) ∧ w'.cell? ⟨w.heap.size + 1 + 1, 6, none⟩ = some (.int .i64 0) ∧ w'.cell? ⟨w.heap.size + 1 + 1, 7, none⟩ = some (.int .i64 0)) ⟨by go_grown, by first | omega | (simp; done) | (simp; omega) | (have := x3 _ (by first | assumption | simp); omega) | (have hx_ := x3 (w.heap.size + 1 + 1) (by simp); simp; omega), fun o => by simp [*, go_sem], by simp [*, go_sem], by simp [*, go_sem], by simp [*, go_sem], by simp [*, go_sem], by simp [*, go_sem], by simp [*, go_sem], by simp [*, go_sem], by simp [*, go_sem], by simp [*, go_sem], by simp [*, go_sem], by simp [*, go_sem], by simp [*, go_sem], by simp [*, go_sem], by simp [*, go_sem], by simp [*, go_sem], by simp [*, go_sem], by simp [*, go_sem], by simp [*, go_sem]⟩ ?_
  rintro w3 ⟨B3, lt3_0, fz3, r3_0, r3_1, r3_2, r3_3, r3_4, r3_5, r3_6, r3_7, r3_8, r3_9, r3_10, r3_11, r3_12, r3_13, r3_14, r3_15, r3_16, r3_17⟩
  have z3 : w.heap.size ≤ w3.heap.size := B3.size
  go_region_held3 (fun w' => w'.cell? ⟨w.heap.size, 0, none⟩ = some (.slice A1 ds.length c1) ∧ w'.cell? ⟨w.heap.size, 1, none⟩ = some (.slice A2 ss.length c2) ∧ w'.cell? ⟨w.heap.size, 2, none⟩ = some (.int .i64 src) ∧ w'.cell? ⟨w.heap.size, 3, none⟩ = some (.int .i64 co) ∧ w'.cell? ⟨w.heap.size, 4, none⟩ = some (.int .i64 si) ∧ w'.cell? ⟨w.heap.size, 5, none⟩ = some (.int .i64 hy) ∧ w'.cell? ⟨w.heap.size + 1, 0, none⟩ = some (.int .i64 k) ∧ w'.cell? ⟨w.heap.size + 1, 1, none⟩ = some (.bool true) ∧ w'.cell? ⟨w.heap.size + 1, 2, none⟩ = some (.int .i64 lo) ∧ w'.cell? ⟨w.heap.size + 1, 3, none⟩ = some (.int .i64 hi)) (first | (go_keep; done) | (simp [*, go_sem]; done))
    (first
      | (go_at_call 64; refine (last_any _ _ _ _ _ _ _ hn).mono ?_; rintro e w4 ⟨rfl, hb4⟩; obtain ⟨B4, hz4, q4, s4, t4, x4, y4, z4⟩ := bkeep (w := w) [w.heap.size, w.heap.size + 1, w.heap.size + 2] (by first | (simp; done) | (simp; omega)) (by first | (go_grown; done) | exact bdrewN (by go_grown) _) hb4; (try simp at hz4); clear hb4))
  go_wp2
  refine bodyPost_ret (by simp [results, Tryz.results77, go_sem, *] <;> rfl) rfl ?_
  exact ⟨rfl, by first | exact (by first | with_reducible exact B4 | (go_grown; done) | with_reducible exact bdrewN B4 _ | (go_grown <;> first | with_reducible exact bdrewN B4 _ | with_reducible exact B4)) | exact bdrewN B3 _ | exact bdrewN (by go_grown) _⟩
set_option maxHeartbeats 2000000 in
theorem next_in_false (A1 A2 : Option Addr) (c1 c2 : Nat) (ds ss : List Int) (src co si hy k lo hi : Int) (w : World) (hn : ds.length ≤ 9223372036854775807) (hm : ds.length ≤ 12) (k0 : 0 ≤ k) (k1 : k < ds.length) (h : inn ds k false = true) :
    Calls Tryz.prog 77 #[rayV A1 ds.length c1 A2 ss.length c2 src co si hy, rsV k false lo hi] w fun e w' => e = .returned (.tuple #[arcV A1 ds.length c1 A2 ss.length c2 src co si hy (nearK (layK k false) false) (farK (layK k false) false), .bool true]) ∧ Below w.heap.size w w' := by
  have hd : decide (0 < k) = true := h
  have hl0 : 0 ≤ layK k false := by have := of_decide_eq_true hd; show 0 ≤ k - 1; omega
  have hl1 : layK k false ≤ 100 := by show k - 1 ≤ 100; omega
  have hArc : ∀ w, Calls Tryz.prog 86 #[rayV A1 ds.length c1 A2 ss.length c2 src co si hy, .int .i64 (k - 1), .bool false] w fun e w' => e = .returned (arcV A1 ds.length c1 A2 ss.length c2 src co si hy (nearK (layK k false) false) (farK (layK k false) false)) ∧ Below w.heap.size w w' := fun w => arc_any A1 A2 ds.length c1 ss.length c2 src co si hy (layK k false) false w hl0 hl1
  have HA := Lib.hid hArc; clear hArc hl0 hl1
  clear h
  go_enter Tryz.func77, Tryz.ntmps77
  go_wp2_with fail
  refine genS (S := fun w' => Below w.heap.size w w' ∧ w.heap.size + 1 + 1 < w'.heap.size ∧ (∀ o, w'.frozen? ⟨w.heap.size + 1 + 1, o, none⟩ = false) ∧ w'.cell? ⟨w.heap.size, 0, none⟩ = some (.slice A1 ds.length c1) ∧ w'.cell? ⟨w.heap.size, 1, none⟩ = some (.slice A2 ss.length c2) ∧ w'.cell? ⟨w.heap.size, 2, none⟩ = some (.int .i64 src) ∧ w'.cell? ⟨w.heap.size, 3, none⟩ = some (.int .i64 co) ∧ w'.cell? ⟨w.heap.size, 4, none⟩ = some (.int .i64 si) ∧ w'.cell? ⟨w.heap.size, 5, none⟩ = some (.int .i64 hy) ∧ w'.cell? ⟨w.heap.size + 1, 0, none⟩ = some (.int .i64 k) ∧ w'.cell? ⟨w.heap.size + 1, 1, none⟩ = some (.bool false) ∧ w'.cell? ⟨w.heap.size + 1, 2, none⟩ = some (.int .i64 lo) ∧ w'.cell? ⟨w.heap.size + 1, 3, none⟩ = some (.int .i64 hi) ∧ w'.cell? ⟨w.heap.size + 1 + 1, 0, none⟩ = some (.slice none 0 0) ∧ w'.cell? ⟨w.heap.size + 1 + 1, 1, none⟩ = some (.slice none 0 0) ∧ w'.cell? ⟨w.heap.size + 1 + 1, 2, none⟩ = some (.int .i64 0) ∧ w'.cell? ⟨w.heap.size + 1 + 1, 3, none⟩ = some (.int .i64 0) ∧ w'.cell? ⟨w.heap.size + 1 + 1, 4, none⟩ = some (.int .i64 0) ∧ w'.cell? ⟨w.heap.size + 1 + 1, 5, none⟩ = some (.int .i64 0) ∧ w'.cell? ⟨w.heap.size + 1 + 1, 6, none⟩ = some (.int .i64 0) ∧ w'.cell? ⟨w.heap.size + 1 + 1, 7, none⟩ = some (.int .i64 0)) ⟨by go_grown, by first | omega | (simp; done) | (simp; omega) | (have := x3 _ (by first | assumption | simp); omega) | (have hx_ := x3 (w.heap.size + 1 + 1) (by simp); simp; omega), fun o => by simp [*, go_sem], by simp [*, go_sem], by simp [*, go_sem], by simp [*, go_sem], by simp [*, go_sem], by simp [*, go_sem], by simp [*, go_sem], by simp [*, go_sem], by simp [*, go_sem], by simp [*, go_sem], by simp [*, go_sem], by simp [*, go_sem], by simp [*, go_sem], by simp [*, go_sem], by simp [*, go_sem], by simp [*, go_sem], by simp [*, go_sem], by simp [*, go_sem], by simp [*, go_sem]⟩ ?_
  rintro w3 ⟨B3, lt3_0, fz3, r3_0, r3_1, r3_2, r3_3, r3_4, r3_5, r3_6, r3_7, r3_8, r3_9, r3_10, r3_11, r3_12, r3_13, r3_14, r3_15, r3_16, r3_17⟩
  have z3 : w.heap.size ≤ w3.heap.size := B3.size
  go_quiet (fail)
  go_wp2_with (go_at_call 86; refine (HA.out _).mono ?_; rintro e w5 ⟨rfl, hb5⟩; obtain ⟨B5, hz5, q5, s5, t5, x5, y5, z5⟩ := bkeep (w := w) [w.heap.size, w.heap.size + 1, w.heap.size + 2] (by first | (simp; done) | (simp; omega)) (by first | (go_grown; done) | exact bdrewN (by go_grown) _) hb5; (try simp at hz5); clear hb5; have zc0 : w5.cell? ⟨w.heap.size + 1 + 1, 0, none⟩ = some (.slice none 0 0) := (by simp [*, go_sem]); have zc1 : w5.cell? ⟨w.heap.size + 1 + 1, 1, none⟩ = some (.slice none 0 0) := (by simp [*, go_sem]); have zc2 : w5.cell? ⟨w.heap.size + 1 + 1, 2, none⟩ = some (.int .i64 0) := (by simp [*, go_sem]); have zc3 : w5.cell? ⟨w.heap.size + 1 + 1, 3, none⟩ = some (.int .i64 0) := (by simp [*, go_sem]); have zc4 : w5.cell? ⟨w.heap.size + 1 + 1, 4, none⟩ = some (.int .i64 0) := (by simp [*, go_sem]); have zc5 : w5.cell? ⟨w.heap.size + 1 + 1, 5, none⟩ = some (.int .i64 0) := (by simp [*, go_sem]); have zc6 : w5.cell? ⟨w.heap.size + 1 + 1, 6, none⟩ = some (.int .i64 0) := (by simp [*, go_sem]); have zc7 : w5.cell? ⟨w.heap.size + 1 + 1, 7, none⟩ = some (.int .i64 0) := (by simp [*, go_sem]); have fz : ∀ o, w5.frozen? ⟨w.heap.size + 1 + 1, o, none⟩ = false := (fun o => by simp [*, go_sem]); clear q5 s5)
  refine bodyPost_ret (by simp [results, Tryz.results77, go_sem, *] <;> rfl) rfl ?_
  exact ⟨rfl, (by first | with_reducible exact B5 | (go_grown; done) | with_reducible exact bdrewN B5 _ | (go_grown <;> first | with_reducible exact bdrewN B5 _ | with_reducible exact B5))⟩
set_option maxHeartbeats 2000000 in
theorem next_out_false (A1 A2 : Option Addr) (c1 c2 : Nat) (ds ss : List Int) (src co si hy k lo hi : Int) (w : World) (hn : ds.length ≤ 9223372036854775807) (hm : ds.length ≤ 12) (k0 : 0 ≤ k) (k1 : k < ds.length) (h : inn ds k false = false) :
    Calls Tryz.prog 77 #[rayV A1 ds.length c1 A2 ss.length c2 src co si hy, rsV k false lo hi] w fun e w' => e = .returned (.tuple #[zarc, .bool false]) ∧ Below w.heap.size w w' := by
  have hd : decide (0 < k) = false := h
  clear h
  go_enter Tryz.func77, Tryz.ntmps77
  go_wp2_with fail
  refine genS (S := fun w' => Below w.heap.size w w' ∧ w.heap.size + 1 + 1 < w'.heap.size ∧ (∀ o, w'.frozen? ⟨w.heap.size + 1 + 1, o, none⟩ = false) ∧ w'.cell? ⟨w.heap.size, 0, none⟩ = some (.slice A1 ds.length c1) ∧ w'.cell? ⟨w.heap.size, 1, none⟩ = some (.slice A2 ss.length c2) ∧ w'.cell? ⟨w.heap.size, 2, none⟩ = some (.int .i64 src) ∧ w'.cell? ⟨w.heap.size, 3, none⟩ = some (.int .i64 co) ∧ w'.cell? ⟨w.heap.size, 4, none⟩ = some (.int .i64 si) ∧ w'.cell? ⟨w.heap.size, 5, none⟩ = some (.int .i64 hy) ∧ w'.cell? ⟨w.heap.size + 1, 0, none⟩ = some (.int .i64 k) ∧ w'.cell? ⟨w.heap.size + 1, 1, none⟩ = some (.bool false) ∧ w'.cell? ⟨w.heap.size + 1, 2, none⟩ = some (.int .i64 lo) ∧ w'.cell? ⟨w.heap.size + 1, 3, none⟩ = some (.int .i64 hi) ∧ w'.cell? ⟨w.heap.size + 1 + 1, 0, none⟩ = some (.slice none 0 0) ∧ w'.cell? ⟨w.heap.size + 1 + 1, 1, none⟩ = some (.slice none 0 0) ∧ w'.cell? ⟨w.heap.size + 1 + 1, 2, none⟩ = some (.int .i64 0) ∧ w'.cell? ⟨w.heap.size + 1 + 1, 3, none⟩ = some (.int .i64 0) ∧ w'.cell? ⟨w.heap.size + 1 + 1, 4, none⟩ = some (.int .i64 0) ∧ w'.cell? ⟨w.heap.size + 1 + 1, 5, none⟩ = some (.int .i64 0) ∧ w'.cell? ⟨w.heap.size + 1 + 1, 6, none⟩ = some (.int .i64 0) ∧ w'.cell? ⟨w.heap.size + 1 + 1, 7, none⟩ = some (.int .i64 0)) ⟨by go_grown, by first | omega | (simp; done) | (simp; omega) | (have := x3 _ (by first | assumption | simp); omega) | (have hx_ := x3 (w.heap.size + 1 + 1) (by simp); simp; omega), fun o => by simp [*, go_sem], by simp [*, go_sem], by simp [*, go_sem], by simp [*, go_sem], by simp [*, go_sem], by simp [*, go_sem], by simp [*, go_sem], by simp [*, go_sem], by simp [*, go_sem], by simp [*, go_sem], by simp [*, go_sem], by simp [*, go_sem], by simp [*, go_sem], by simp [*, go_sem], by simp [*, go_sem], by simp [*, go_sem], by simp [*, go_sem], by simp [*, go_sem], by simp [*, go_sem]⟩ ?_
  rintro w3 ⟨B3, lt3_0, fz3, r3_0, r3_1, r3_2, r3_3, r3_4, r3_5, r3_6, r3_7, r3_8, r3_9, r3_10, r3_11, r3_12, r3_13, r3_14, r3_15, r3_16, r3_17⟩
  have z3 : w.heap.size ≤ w3.heap.size := B3.size
  go_quiet (fail)
  go_wp2
  refine bodyPost_ret (by simp [results, Tryz.results77, go_sem, *] <;> rfl) rfl ?_
  exact ⟨rfl, by first | exact (by first | with_reducible exact B3 | (go_grown; done) | with_reducible exact bdrewN B3 _ | (go_grown <;> first | with_reducible exact bdrewN B3 _ | with_reducible exact B3)) | exact bdrewN B3 _ | exact bdrewN (by go_grown) _⟩
theorem next_in (A1 A2 : Option Addr) (c1 c2 : Nat) (ds ss : List Int) (src co si hy k lo hi : Int) (w : World) (hn : ds.length ≤ 9223372036854775807) (hm : ds.length ≤ 12) (k0 : 0 ≤ k) (k1 : k < ds.length) (dn : Bool) (h : inn ds k dn = true) :
    Calls Tryz.prog 77 #[rayV A1 ds.length c1 A2 ss.length c2 src co si hy, rsV k dn lo hi] w fun e w' => e = .returned (.tuple #[arcV A1 ds.length c1 A2 ss.length c2 src co si hy (nearK (layK k dn) dn) (farK (layK k dn) dn), .bool true]) ∧ Below w.heap.size w w' := by
  cases dn
  · exact next_in_false A1 A2 c1 c2 ds ss src co si hy k lo hi w hn hm k0 k1 h
  · exact next_in_true A1 A2 c1 c2 ds ss src co si hy k lo hi w hn hm k0 k1 h
theorem next_out (A1 A2 : Option Addr) (c1 c2 : Nat) (ds ss : List Int) (src co si hy k lo hi : Int) (w : World) (hn : ds.length ≤ 9223372036854775807) (hm : ds.length ≤ 12) (k0 : 0 ≤ k) (k1 : k < ds.length) (dn : Bool) (h : inn ds k dn = false) :
    Calls Tryz.prog 77 #[rayV A1 ds.length c1 A2 ss.length c2 src co si hy, rsV k dn lo hi] w fun e w' => e = .returned (.tuple #[zarc, .bool false]) ∧ Below w.heap.size w w' := by
  cases dn
  · exact next_out_false A1 A2 c1 c2 ds ss src co si hy k lo hi w hn hm k0 k1 h
  · exact next_out_true A1 A2 c1 c2 ds ss src co si hy k lo hi w hn hm k0 k1 h
set_option maxHeartbeats 1000000 in
theorem l07Layer_true (A1 A2 : Option Addr) (c1 n2 c2 : Nat) (ds : List Int) (k lo hi : Int) (w : World) (hm : ds.length ≤ 12) (k0 : 0 ≤ k) (k1 : k < ds.length) :
    Calls Tryz.prog 81 #[profV A1 ds.length c1 A2 n2 c2, rsV k true lo hi] w fun e w' => e = .returned (.tuple #[.int .i64 (layK k true), .bool (inn ds k true)]) ∧ Below w.heap.size w w' := by
  go_enter Tryz.func81, Tryz.ntmps81
  go_wp2_with fail
  refine genS (S := fun w' => Below w.heap.size w w' ∧ w'.cell? ⟨w.heap.size, 0, none⟩ = some (.slice A1 ds.length c1) ∧ w'.cell? ⟨w.heap.size, 1, none⟩ = some (.slice A2 n2 c2) ∧ w'.cell? ⟨w.heap.size + 1, 0, none⟩ = some (.int .i64 k) ∧ w'.cell? ⟨w.heap.size + 1, 1, none⟩ = some (.bool true) ∧ w'.cell? ⟨w.heap.size + 1, 2, none⟩ = some (.int .i64 lo) ∧ w'.cell? ⟨w.heap.size + 1, 3, none⟩ = some (.int .i64 hi)) ⟨by first | (go_grown; done) | exact bdrewN (by go_grown) _, by simp [*, go_sem], by simp [*, go_sem], by simp [*, go_sem], by simp [*, go_sem], by simp [*, go_sem], by simp [*, go_sem]⟩ ?_
  rintro w3 ⟨B3, r0, r1, r2, r3, r4, r5⟩
  have W1 : IntKind.i64.wrap ((ds.length : Int) - 1) = (ds.length : Int) - 1 := IntWalk.i64_in _ (by omega)
  go_quiet (fail)
  clear W1
  go_wp2
  go_ret2
  exact ⟨rfl, by first | exact bdrewN B3 _ | exact B3⟩
set_option maxHeartbeats 1000000 in
theorem l07Layer_false (A1 A2 : Option Addr) (c1 n2 c2 : Nat) (ds : List Int) (k lo hi : Int) (w : World) (hm : ds.length ≤ 12) (k0 : 0 ≤ k) (k1 : k < ds.length) :
    Calls Tryz.prog 81 #[profV A1 ds.length c1 A2 n2 c2, rsV k false lo hi] w fun e w' => e = .returned (.tuple #[.int .i64 (layK k false), .bool (inn ds k false)]) ∧ Below w.heap.size w w' := by
  go_enter Tryz.func81, Tryz.ntmps81
  go_wp2_with fail
  refine genS (S := fun w' => Below w.heap.size w w' ∧ w'.cell? ⟨w.heap.size, 0, none⟩ = some (.slice A1 ds.length c1) ∧ w'.cell? ⟨w.heap.size, 1, none⟩ = some (.slice A2 n2 c2) ∧ w'.cell? ⟨w.heap.size + 1, 0, none⟩ = some (.int .i64 k) ∧ w'.cell? ⟨w.heap.size + 1, 1, none⟩ = some (.bool false) ∧ w'.cell? ⟨w.heap.size + 1, 2, none⟩ = some (.int .i64 lo) ∧ w'.cell? ⟨w.heap.size + 1, 3, none⟩ = some (.int .i64 hi)) ⟨by first | (go_grown; done) | exact bdrewN (by go_grown) _, by simp [*, go_sem], by simp [*, go_sem], by simp [*, go_sem], by simp [*, go_sem], by simp [*, go_sem], by simp [*, go_sem]⟩ ?_
  rintro w3 ⟨B3, r0, r1, r2, r3, r4, r5⟩
  have W1 : IntKind.i64.wrap (k - 1) = k - 1 := IntWalk.i64_in _ (by omega)
  go_quiet (fail)
  clear W1
  go_wp2
  go_ret2
  exact ⟨rfl, by first | exact bdrewN B3 _ | exact B3⟩
theorem l07Layer_any (A1 A2 : Option Addr) (c1 n2 c2 : Nat) (ds : List Int) (k lo hi : Int) (dn : Bool) (w : World) (hm : ds.length ≤ 12) (k0 : 0 ≤ k) (k1 : k < ds.length) :
    Calls Tryz.prog 81 #[profV A1 ds.length c1 A2 n2 c2, rsV k dn lo hi] w fun e w' => e = .returned (.tuple #[.int .i64 (layK k dn), .bool (inn ds k dn)]) ∧ Below w.heap.size w w' := by
  cases dn
  · exact l07Layer_false A1 A2 c1 n2 c2 ds k lo hi w hm k0 k1
  · exact l07Layer_true A1 A2 c1 n2 c2 ds k lo hi w hm k0 k1
end Go.Proofs.YtopggkomkfjbfaaGreat
