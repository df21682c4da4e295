/- The layers whose knots a ray can both cross, by the program and by the reference. -/
import Derived.Test.YtkmlcjhlckoajaaSine
namespace Go.Proofs.Ytkmlcjhlckoajaa
set_option linter.unusedSimpArgs false
set_option linter.unusedVariables false
open Go.RowKit

/-- the open layers below k -/
def opTo (ss : List Int) (src co hy : Int) : Nat → List Int
  | 0 => []
  | k + 1 => if canB ss src co hy k && canB ss src co hy ((k : Int) + 1) then opTo ss src co hy k ++ [(k : Int)] else opTo ss src co hy k
theorem opTo_len (ss : List Int) (src co hy : Int) : ∀ k, (opTo ss src co hy k).length ≤ k := by
  intro k
  induction k with
  | zero => exact Nat.le_refl 0
  | succ k ih =>
    rw [opTo]
    split
    · rw [List.length_append]; simp only [List.length_singleton]; omega
    · omega
@[irreducible] def openL (ds ss : List Int) (src co si hy : Int) : List Int := if rayE ds ss src co si hy 0 = 0 then opTo ss src co hy (ds.length - 1) else []
theorem openL_len (ds ss : List Int) (src co si hy : Int) : (openL ds ss src co si hy).length ≤ 12 := by
  unfold openL
  by_cases h0 : rayE ds ss src co si hy 0 = 0
  · rw [if_pos h0]
    have := (rayOk_zero h0).l1
    have := opTo_len ss src co hy (ds.length - 1)
    omega
  · rw [if_neg h0]; simp
theorem op_yes {ss : List Int} {src co hy : Int} {k : Nat} (h1 : canB ss src co hy k = true) (h2 : canB ss src co hy ((k : Int) + 1) = true) : opTo ss src co hy (k + 1) = opTo ss src co hy k ++ [(k : Int)] := by rw [opTo, h1, h2]; rfl
theorem op_no1 {ss : List Int} {src co hy : Int} {k : Nat} (h1 : canB ss src co hy k = false) : opTo ss src co hy (k + 1) = opTo ss src co hy k := by rw [opTo, h1]; rfl
theorem op_no2 {ss : List Int} {src co hy : Int} {k : Nat} (h2 : canB ss src co hy ((k : Int) + 1) = false) : opTo ss src co hy (k + 1) = opTo ss src co hy k := by rw [opTo, h2, Bool.and_false]; rfl

set_option maxHeartbeats 4000000 in
theorem implLayersOpen_any (A1 A2 : Option Addr) (c1 c2 : Nat) (ds ss : List Int) (src co si hy : Int) (w : World) (h : ProfAt w A1 c1 A2 c2 ds ss) :
    Calls Try.prog 39 #[profV A1 ds.length c1 A2 ss.length c2, .int .i64 src, dirV co si hy] w fun e w' =>
      (∃ A' c', e = .returned (.tuple #[.slice A' (openL ds ss src co si hy).length c', .int .i64 (rayE ds ss src co si hy 0)]) ∧ ResI w' w.heap.size w'.heap.size A' c' (openL ds ss src co si hy)) ∧ Below w.heap.size w w' := by
  have hn := Nat.le_trans h.1.1 h.1.2.1
  by_cases h0 : rayE ds ss src co si hy 0 = 0
  · have r := rayOk_zero h0
    have HL : Hid (openL ds ss src co si hy = opTo ss src co hy (ds.length - 1)) := by
      have e : openL ds ss src co si hy = opTo ss src co hy (ds.length - 1) := by unfold openL; rw [if_pos h0]
      exact Lib.hid e
    have l0 := r.l0; have l1 := r.l1; have l2 := r.l2; have l3 := r.l3
    have H := Lib.hid h; have R := Lib.hid r; have H0 := Lib.hid h0; clear h r h0
    go_enter Try.func39, Try.ntmps39
    go_upto_region 4 with ((go_at_call 107; refine (newRay_ok _ _ _ _ _ _ _ _ _ _ _ ⟨(H.out.1.below (B := w.heap.size) (by first | exact Below.refl _ _ | (go_grown; done) | exact bdrewN (by go_grown) _) (Nat.le_refl _)), (H.out.2.below (B := w.heap.size) (by first | exact Below.refl _ _ | (go_grown; done) | exact bdrewN (by go_grown) _) (Nat.le_refl _))⟩ R.out).mono ?_; rintro e w1 ⟨rfl, hb1⟩; obtain ⟨B1, hz1, q1, s1, t1, x1, y1, z1⟩ := bkeep (w := w) [w.heap.size, w.heap.size + 1] (by first | (simp; done) | (simp; omega)) (by first | (go_grown; done) | exact bdrewN (by go_grown) _) hb1; (try simp at hz1); clear hb1))
    refine genS (S := fun w' => Below w.heap.size w w' ∧ w.heap.size < w'.heap.size ∧ w.heap.size + 1 < w'.heap.size ∧ w1.heap.size < w'.heap.size ∧ w'.cell? ⟨w.heap.size, 0, none⟩ = some (.slice A1 ds.length c1) ∧ w'.cell? ⟨w.heap.size, 1, none⟩ = some (.slice A2 ss.length c2) ∧ w'.cell? ⟨w.heap.size + 1, 0, none⟩ = some (.int .i64 co) ∧ w'.cell? ⟨w.heap.size + 1, 1, none⟩ = some (.int .i64 si) ∧ w'.cell? ⟨w.heap.size + 1, 2, none⟩ = some (.int .i64 hy) ∧ w'.cell? ⟨w1.heap.size, 0, none⟩ = some (.slice A1 ds.length c1) ∧ w'.cell? ⟨w1.heap.size, 1, none⟩ = some (.slice A2 ss.length c2) ∧ w'.cell? ⟨w1.heap.size, 2, none⟩ = some (.int .i64 src) ∧ w'.cell? ⟨w1.heap.size, 3, none⟩ = some (.int .i64 co) ∧ w'.cell? ⟨w1.heap.size, 4, none⟩ = some (.int .i64 si) ∧ w'.cell? ⟨w1.heap.size, 5, none⟩ = some (.int .i64 hy)) ⟨(by first | with_reducible exact B1 | (go_grown; done) | with_reducible exact bdrewN B1 _ | (go_grown <;> first | with_reducible exact bdrewN B1 _ | with_reducible exact B1)), by first | omega | (simp; done) | (simp; omega) | (have := x1 _ (by first | assumption | simp); omega) | (have hx_ := x1 (w.heap.size) (by simp); simp; omega), by first | omega | (simp; done) | (simp; omega) | (have := x1 _ (by first | assumption | simp); omega) | (have hx_ := x1 (w.heap.size + 1) (by simp); simp; omega), by first | omega | (simp; done) | (simp; omega) | (have := x1 _ (by first | assumption | simp); omega) | (have hx_ := x1 (w1.heap.size) (by simp); simp; omega), by simp [*, go_sem], by simp [*, go_sem], by simp [*, go_sem], by simp [*, go_sem], by simp [*, go_sem], by simp [*, go_sem], by simp [*, go_sem], by simp [*, go_sem], by simp [*, go_sem], by simp [*, go_sem], by simp [*, go_sem]⟩ ?_
    rintro w2 ⟨B2, lt2_0, lt2_1, lt2_2, r2_0, r2_1, r2_2, r2_3, r2_4, r2_5, r2_6, r2_7, r2_8, r2_9, r2_10⟩
    clear q1 s1 t1 x1 y1
    have z2 : w.heap.size ≤ w2.heap.size := B2.size
    have HB := Lib.hid B2
    have H2 := Lib.hid (H.out.2.below HB.out (Nat.le_refl _))
    go_wp2_with (go_at_call 108; refine (last_any _ _ _ _ _ _ _ hn).mono ?_; rintro e w3 ⟨rfl, hb3⟩; obtain ⟨B3, hz3, q3, s3, t3, x3, y3, z3⟩ := bkeep (w := w2) [] (by first | (simp; done) | (simp; omega)) (by first | (go_grown; done) | exact bdrewN (by go_grown) _) hb3; (try simp at hz3); clear hb3)
    go_loopw [10, 24] (fun o i wr => Below w2.heap.size w2 wr ∧ ∃ k : Nat, k ≤ ds.length - 1 ∧ i = .int .i64 k ∧ OwnI wr w2.heap.size o (opTo ss src co hy k)) (fun _ i _ => ds.length - (intOf i).toNat)
    case atStart => exact ⟨by first | exact B3 | go_grown, 0, by omega, rfl, OwnI.none_ _ _⟩
    case round =>
      obtain ⟨Br, k, hk, rfl, A', c', rfl, hc', hown⟩ := hrel
      have HO := Lib.hid hown; clear hown
      have hln := opTo_len ss src co hy k
      have tr := bold Br; have zr := bnew Br; have sr := Br.size
      have HR := Lib.hid (H2.out.below Br (Nat.le_refl _))
      by_cases hlt : (k : Int) < (ds.length : Int) - 1
      · have k0 : (0 : Int) ≤ (k : Int) := Int.natCast_nonneg _
        have k1 : (k : Int) < ss.length := by omega
        have k2 : (0 : Int) ≤ (k : Int) + 1 := by omega
        have k3 : (k : Int) + 1 < ss.length := by omega
        rcases Bool.eq_false_or_eq_true (canB ss src co hy k) with h1 | h1
        · rcases Bool.eq_false_or_eq_true (canB ss src co hy ((k : Int) + 1)) with h2 | h2
          · have HK := Lib.hid (op_yes h1 h2)
            have hd1 : decide (co * spd ss k < hy * spd ss src) = true := h1
            have hd2 : decide (co * spd ss ((k : Int) + 1) < hy * spd ss src) = true := h2
            clear h1 h2
            go_wp2_with (first
              | (have hq_ := B4; (go_at_call 99; refine (canCross_any _ _ _ _ _ _ _ _ _ _ _ _ _ (HR.out.below (B := wr.heap.size) (by first | exact Below.refl _ _ | (go_grown; done) | exact bdrewN (by go_grown) _) (Nat.le_refl _)) R.out k2 k3).mono ?_; rintro e w5 ⟨rfl, hb5⟩; obtain ⟨B5, hz5, q5, s5, t5, x5, y5, z5⟩ := bkeep (w := wr) [] (by first | (simp; done) | (simp; omega)) (by first | (go_grown; done) | exact bdrewN (by go_grown) _) hb5; (try simp at hz5); clear hb5))
              | (go_at_call 99; refine (canCross_any _ _ _ _ _ _ _ _ _ _ _ _ _ (HR.out.below (B := wr.heap.size) (by first | exact Below.refl _ _ | (go_grown; done) | exact bdrewN (by go_grown) _) (Nat.le_refl _)) R.out k0 k1).mono ?_; rintro e w4 ⟨rfl, hb4⟩; obtain ⟨B4, hz4, q4, s4, t4, x4, y4, z4⟩ := bkeep (w := wr) [] (by first | (simp; done) | (simp; omega)) (by first | (go_grown; done) | exact bdrewN (by go_grown) _) hb4; (try simp at hz4); clear hb4)
              | (at_builtin; refine app1 rfl _ _ 24 rfl w2.heap.size 2 (.int .i64 0) 8 Try.underlying24 infoInt2 rfl (.int .i64 k) rfl _ _ _ rfl _ rfl (owns_below (B := wr.heap.size) HO.out ?_ (Nat.le_refl _)) ?_ ?_ ?_ ?_ ?_; (focus (first | (go_grown; done) | (refine bdrewN ?_ _; go_grown; done) | exact Below.alloc (bdrewN (Below.refl _ _) _) (Nat.le_refl _) _)); (focus (first | (simp; done) | exact (World.cell?_alloc_new (w := _) _ _ _).trans rfl)); (focus (unfold maxLen; omega)); (focus omega); (focus (first | omega | (simp; omega))); intro v6 w6 hown6 hb6))
            go_roundw
            case rel => exact ⟨Below.trans (by first | (go_grown; done) | (go_grown <;> first | exact Br.trans (B5.mono sr))) hb6, k + 1, by omega, by go_num, OwnI.next HK.out hown6⟩
            case measure => simp [intOf]; omega
          · have HK := Lib.hid (op_no2 h2)
            have hd1 : decide (co * spd ss k < hy * spd ss src) = true := h1
            have hd2 : decide (co * spd ss ((k : Int) + 1) < hy * spd ss src) = false := h2
            clear h1 h2
            go_wp2_with (first
              | (have hq_ := B4; (go_at_call 99; refine (canCross_any _ _ _ _ _ _ _ _ _ _ _ _ _ (HR.out.below (B := wr.heap.size) (by first | exact Below.refl _ _ | (go_grown; done) | exact bdrewN (by go_grown) _) (Nat.le_refl _)) R.out k2 k3).mono ?_; rintro e w5 ⟨rfl, hb5⟩; obtain ⟨B5, hz5, q5, s5, t5, x5, y5, z5⟩ := bkeep (w := wr) [] (by first | (simp; done) | (simp; omega)) (by first | (go_grown; done) | exact bdrewN (by go_grown) _) hb5; (try simp at hz5); clear hb5))
              | (go_at_call 99; refine (canCross_any _ _ _ _ _ _ _ _ _ _ _ _ _ (HR.out.below (B := wr.heap.size) (by first | exact Below.refl _ _ | (go_grown; done) | exact bdrewN (by go_grown) _) (Nat.le_refl _)) R.out k0 k1).mono ?_; rintro e w4 ⟨rfl, hb4⟩; obtain ⟨B4, hz4, q4, s4, t4, x4, y4, z4⟩ := bkeep (w := wr) [] (by first | (simp; done) | (simp; omega)) (by first | (go_grown; done) | exact bdrewN (by go_grown) _) hb4; (try simp at hz4); clear hb4))
            have OW : OwnI w5 w2.heap.size (.slice A' (opTo ss src co hy k).length c') (opTo ss src co hy k) := OwnI.below ⟨_, _, rfl, hc', HO.out⟩ B5 (Nat.le_refl _)
            go_roundw
            case rel => exact ⟨by first | exact Br.trans (B5.mono sr) | (go_grown; done), k + 1, by omega, by go_num, by rw [HK.out]; exact OW⟩
            case measure => simp [intOf]; omega
        · have HK := Lib.hid (op_no1 h1)
          have hd1 : decide (co * spd ss k < hy * spd ss src) = false := h1
          clear h1
          go_wp2_with (go_at_call 99; refine (canCross_any _ _ _ _ _ _ _ _ _ _ _ _ _ (HR.out.below (B := wr.heap.size) (by first | exact Below.refl _ _ | (go_grown; done) | exact bdrewN (by go_grown) _) (Nat.le_refl _)) R.out k0 k1).mono ?_; rintro e w4 ⟨rfl, hb4⟩; obtain ⟨B4, hz4, q4, s4, t4, x4, y4, z4⟩ := bkeep (w := wr) [] (by first | (simp; done) | (simp; omega)) (by first | (go_grown; done) | exact bdrewN (by go_grown) _) hb4; (try simp at hz4); clear hb4)
          have OW : OwnI w4 w2.heap.size (.slice A' (opTo ss src co hy k).length c') (opTo ss src co hy k) := OwnI.below ⟨_, _, rfl, hc', HO.out⟩ B4 (Nat.le_refl _)
          go_roundw
          case rel => exact ⟨by first | exact Br.trans (B4.mono sr) | (go_grown; done), k + 1, by omega, by go_num, by rw [HK.out]; exact OW⟩
          case measure => simp [intOf]; omega
      · obtain rfl : k = ds.length - 1 := by omega
        go_wp2
        go_ret2
        exact ⟨⟨A', c', by rw [HL.out, H0.out]; rfl, by rw [HL.out]; exact (OwnI.res ⟨_, _, rfl, hc', HO.out⟩).mono z2 (Nat.le_refl _)⟩, HB.out.trans (Br.mono z2)⟩
  · have hE : (rayE ds ss src co si hy 0 != 0) = true := by simpa using h0
    have HL : Hid (openL ds ss src co si hy = []) := by
      have e : openL ds ss src co si hy = [] := by unfold openL; rw [if_neg h0]
      exact Lib.hid e
    have H := Lib.hid h; have H0 := Lib.hid h0; clear h h0
    go_enter Try.func39, Try.ntmps39
    go_wp2_with (go_at_call 107; refine (newRay_bad _ _ _ _ _ _ _ _ _ _ _ ⟨(H.out.1.below (B := w.heap.size) (by first | exact Below.refl _ _ | (go_grown; done) | exact bdrewN (by go_grown) _) (Nat.le_refl _)), (H.out.2.below (B := w.heap.size) (by first | exact Below.refl _ _ | (go_grown; done) | exact bdrewN (by go_grown) _) (Nat.le_refl _))⟩ H0.out).mono ?_; rintro e w1 ⟨rfl, hb1⟩; obtain ⟨B1, hz1, q1, s1, t1, x1, y1, z1⟩ := bkeep (w := w) [w.heap.size, w.heap.size + 1] (by first | (simp; done) | (simp; omega)) (by first | (go_grown; done) | exact bdrewN (by go_grown) _) hb1; (try simp at hz1); clear hb1)
    go_ret2
    exact ⟨⟨none, 0, by rw [HL.out]; rfl, by rw [HL.out]; exact ResI.nil _ _ _ _ _ (by omega)⟩, (by first | with_reducible exact B1 | (go_grown; done) | with_reducible exact bdrewN B1 _ | (go_grown <;> first | with_reducible exact bdrewN B1 _ | with_reducible exact B1))⟩
set_option maxHeartbeats 4000000 in
theorem specLayersOpen_any (A1 A2 : Option Addr) (c1 c2 : Nat) (ds ss : List Int) (src co si hy : Int) (w : World) (h : ProfAt w A1 c1 A2 c2 ds ss) :
    Calls Try.prog 40 #[profV A1 ds.length c1 A2 ss.length c2, .int .i64 src, dirV co si hy] w fun e w' =>
      (∃ A' c', e = .returned (.tuple #[.slice A' (openL ds ss src co si hy).length c', .int .i64 (rayE ds ss src co si hy 0)]) ∧ ResI w' w.heap.size w'.heap.size A' c' (openL ds ss src co si hy)) ∧ Below w.heap.size w w' := by
  have hn := Nat.le_trans h.1.1 h.1.2.1
  by_cases h0 : rayE ds ss src co si hy 0 = 0
  · have r := rayOk_zero h0
    have hE : (rayE ds ss src co si hy 0 != 0) = false := by rw [h0]; rfl
    have HL : Hid (openL ds ss src co si hy = opTo ss src co hy (ds.length - 1)) := by
      have e : openL ds ss src co si hy = opTo ss src co hy (ds.length - 1) := by unfold openL; rw [if_pos h0]
      exact Lib.hid e
    have l0 := r.l0; have l1 := r.l1; have l2 := r.l2; have l3 := r.l3
    have H := Lib.hid h; have R := Lib.hid r; have H0 := Lib.hid h0; clear h r h0
    go_enter Try.func40, Try.ntmps40
    go_upto_region 4 with ((go_at_call 101; refine (l05Code_any _ _ _ _ _ _ _ _ _ _ _ _ ⟨(H.out.1.below (B := w.heap.size) (by first | exact Below.refl _ _ | (go_grown; done) | exact bdrewN (by go_grown) _) (Nat.le_refl _)), (H.out.2.below (B := w.heap.size) (by first | exact Below.refl _ _ | (go_grown; done) | exact bdrewN (by go_grown) _) (Nat.le_refl _))⟩).mono ?_; rintro e w1 ⟨rfl, hb1⟩; obtain ⟨B1, hz1, q1, s1, t1, x1, y1, z1⟩ := bkeep (w := w) [w.heap.size, w.heap.size + 1] (by first | (simp; done) | (simp; omega)) (by first | (go_grown; done) | exact bdrewN (by go_grown) _) hb1; (try simp at hz1); clear hb1))
    refine genS (S := fun w' => Below w.heap.size w w' ∧ w.heap.size < w'.heap.size ∧ w.heap.size + 1 < w'.heap.size ∧ w'.cell? ⟨w.heap.size, 0, none⟩ = some (.slice A1 ds.length c1) ∧ w'.cell? ⟨w.heap.size, 1, none⟩ = some (.slice A2 ss.length c2) ∧ w'.cell? ⟨w.heap.size + 1, 0, none⟩ = some (.int .i64 co) ∧ w'.cell? ⟨w.heap.size + 1, 1, none⟩ = some (.int .i64 si) ∧ w'.cell? ⟨w.heap.size + 1, 2, none⟩ = some (.int .i64 hy)) ⟨(by first | with_reducible exact B1 | (go_grown; done) | with_reducible exact bdrewN B1 _ | (go_grown <;> first | with_reducible exact bdrewN B1 _ | with_reducible exact B1)), by first | omega | (simp; done) | (simp; omega) | (have := x1 _ (by first | assumption | simp); omega) | (have hx_ := x1 (w.heap.size) (by simp); simp; omega), by first | omega | (simp; done) | (simp; omega) | (have := x1 _ (by first | assumption | simp); omega) | (have hx_ := x1 (w.heap.size + 1) (by simp); simp; omega), by simp [*, go_sem], by simp [*, go_sem], by simp [*, go_sem], by simp [*, go_sem], by simp [*, go_sem]⟩ ?_
    rintro w2 ⟨B2, lt2_0, lt2_1, r2_0, r2_1, r2_2, r2_3, r2_4⟩
    clear q1 s1 t1 x1 y1
    have z2 : w.heap.size ≤ w2.heap.size := B2.size
    have HB := Lib.hid B2
    have H1 := Lib.hid (H.out.1.below HB.out (Nat.le_refl _))
    have H2 := Lib.hid (H.out.2.below HB.out (Nat.le_refl _))
    go_wp2
    go_loopw [9, 10] (fun o i wr => Below w2.heap.size w2 wr ∧ ∃ k : Nat, k ≤ ds.length - 1 ∧ i = .int .i64 k ∧ OwnI wr w2.heap.size o (opTo ss src co hy k)) (fun _ i _ => ds.length - (intOf i).toNat)
    case atStart => exact ⟨by go_grown, 0, by omega, rfl, OwnI.zero (Nat.le_refl _)⟩
    case round =>
      obtain ⟨Br, k, hk, rfl, A', c', rfl, hc', hown⟩ := hrel
      have HO := Lib.hid hown; clear hown
      have hln := opTo_len ss src co hy k
      have tr := bold Br; have zr := bnew Br; have sr := Br.size
      have HR1 := Lib.hid (H1.out.below Br (Nat.le_refl _))
      have HR := Lib.hid (H2.out.below Br (Nat.le_refl _))
      by_cases hlt : (k : Int) + 1 < (ds.length : Int)
      · have k0 : (0 : Int) ≤ (k : Int) := Int.natCast_nonneg _
        have k1 : (k : Int) < ss.length := by omega
        have k2 : (0 : Int) ≤ (k : Int) + 1 := by omega
        have k3 : (k : Int) + 1 < ss.length := by omega
        have p1 := sqI_pos R.out k0 k1
        have p2 := sqI_pos R.out k2 k3
        rcases Bool.eq_false_or_eq_true (canB ss src co hy k) with h1 | h1
        · rcases Bool.eq_false_or_eq_true (canB ss src co hy ((k : Int) + 1)) with h2 | h2
          · have HK := Lib.hid (op_yes h1 h2)
            rw [h1] at p1; rw [h2] at p2
            clear h1 h2
            go_wp2_with (first
              | (have hq_ := B4; (go_at_call 102; refine (l05Square_any _ _ _ _ _ _ _ _ _ _ _ _ ⟨(HR1.out.below (B := wr.heap.size) (by first | exact Below.refl _ _ | (go_grown; done) | exact bdrewN (by go_grown) _) (Nat.le_refl _)), (HR.out.below (B := wr.heap.size) (by first | exact Below.refl _ _ | (go_grown; done) | exact bdrewN (by go_grown) _) (Nat.le_refl _))⟩ R.out k2 k3).mono ?_; rintro e w5 ⟨rfl, hb5⟩; obtain ⟨B5, hz5, q5, s5, t5, x5, y5, z5⟩ := bkeep (w := wr) [] (by first | (simp; done) | (simp; omega)) (by first | (go_grown; done) | exact bdrewN (by go_grown) _) hb5; (try simp at hz5); clear hb5))
              | (go_at_call 102; refine (l05Square_any _ _ _ _ _ _ _ _ _ _ _ _ ⟨(HR1.out.below (B := wr.heap.size) (by first | exact Below.refl _ _ | (go_grown; done) | exact bdrewN (by go_grown) _) (Nat.le_refl _)), (HR.out.below (B := wr.heap.size) (by first | exact Below.refl _ _ | (go_grown; done) | exact bdrewN (by go_grown) _) (Nat.le_refl _))⟩ R.out k0 k1).mono ?_; rintro e w4 ⟨rfl, hb4⟩; obtain ⟨B4, hz4, q4, s4, t4, x4, y4, z4⟩ := bkeep (w := wr) [] (by first | (simp; done) | (simp; omega)) (by first | (go_grown; done) | exact bdrewN (by go_grown) _) hb4; (try simp at hz4); clear hb4)
              | (at_builtin; refine app1 rfl _ _ 24 rfl w2.heap.size 2 (.int .i64 0) 8 Try.underlying24 infoInt2 rfl (.int .i64 k) rfl _ _ _ rfl _ rfl (owns_below (B := wr.heap.size) HO.out ?_ (Nat.le_refl _)) ?_ ?_ ?_ ?_ ?_; (focus (first | (go_grown; done) | (refine bdrewN ?_ _; go_grown; done) | exact Below.alloc (bdrewN (Below.refl _ _) _) (Nat.le_refl _) _)); (focus (first | (simp; done) | exact (World.cell?_alloc_new (w := _) _ _ _).trans rfl)); (focus (unfold maxLen; omega)); (focus omega); (focus (first | omega | (simp; omega))); intro v6 w6 hown6 hb6))
            go_roundw
            case rel => exact ⟨Below.trans (by first | (go_grown; done) | (go_grown <;> first | exact Br.trans (B5.mono sr))) hb6, k + 1, by omega, by go_num, OwnI.next HK.out hown6⟩
            case measure => simp [intOf]; omega
          · have HK := Lib.hid (op_no2 h2)
            rw [h1] at p1; rw [h2] at p2
            clear h1 h2
            go_wp2_with (first
              | (have hq_ := B4; (go_at_call 102; refine (l05Square_any _ _ _ _ _ _ _ _ _ _ _ _ ⟨(HR1.out.below (B := wr.heap.size) (by first | exact Below.refl _ _ | (go_grown; done) | exact bdrewN (by go_grown) _) (Nat.le_refl _)), (HR.out.below (B := wr.heap.size) (by first | exact Below.refl _ _ | (go_grown; done) | exact bdrewN (by go_grown) _) (Nat.le_refl _))⟩ R.out k2 k3).mono ?_; rintro e w5 ⟨rfl, hb5⟩; obtain ⟨B5, hz5, q5, s5, t5, x5, y5, z5⟩ := bkeep (w := wr) [] (by first | (simp; done) | (simp; omega)) (by first | (go_grown; done) | exact bdrewN (by go_grown) _) hb5; (try simp at hz5); clear hb5))
              | (go_at_call 102; refine (l05Square_any _ _ _ _ _ _ _ _ _ _ _ _ ⟨(HR1.out.below (B := wr.heap.size) (by first | exact Below.refl _ _ | (go_grown; done) | exact bdrewN (by go_grown) _) (Nat.le_refl _)), (HR.out.below (B := wr.heap.size) (by first | exact Below.refl _ _ | (go_grown; done) | exact bdrewN (by go_grown) _) (Nat.le_refl _))⟩ R.out k0 k1).mono ?_; rintro e w4 ⟨rfl, hb4⟩; obtain ⟨B4, hz4, q4, s4, t4, x4, y4, z4⟩ := bkeep (w := wr) [] (by first | (simp; done) | (simp; omega)) (by first | (go_grown; done) | exact bdrewN (by go_grown) _) hb4; (try simp at hz4); clear hb4))
            have OW : OwnI w5 w2.heap.size (.slice A' (opTo ss src co hy k).length c') (opTo ss src co hy k) := OwnI.below ⟨_, _, rfl, hc', HO.out⟩ B5 (Nat.le_refl _)
            go_roundw
            case rel => exact ⟨by first | exact Br.trans (B5.mono sr) | (go_grown; done), k + 1, by omega, by go_num, by rw [HK.out]; exact OW⟩
            case measure => simp [intOf]; omega
        · have HK := Lib.hid (op_no1 h1)
          rw [h1] at p1
          clear h1 p2
          go_wp2_with (go_at_call 102; refine (l05Square_any _ _ _ _ _ _ _ _ _ _ _ _ ⟨(HR1.out.below (B := wr.heap.size) (by first | exact Below.refl _ _ | (go_grown; done) | exact bdrewN (by go_grown) _) (Nat.le_refl _)), (HR.out.below (B := wr.heap.size) (by first | exact Below.refl _ _ | (go_grown; done) | exact bdrewN (by go_grown) _) (Nat.le_refl _))⟩ R.out k0 k1).mono ?_; rintro e w4 ⟨rfl, hb4⟩; obtain ⟨B4, hz4, q4, s4, t4, x4, y4, z4⟩ := bkeep (w := wr) [] (by first | (simp; done) | (simp; omega)) (by first | (go_grown; done) | exact bdrewN (by go_grown) _) hb4; (try simp at hz4); clear hb4)
          have OW : OwnI w4 w2.heap.size (.slice A' (opTo ss src co hy k).length c') (opTo ss src co hy k) := OwnI.below ⟨_, _, rfl, hc', HO.out⟩ B4 (Nat.le_refl _)
          go_roundw
          case rel => exact ⟨by first | exact Br.trans (B4.mono sr) | (go_grown; done), k + 1, by omega, by go_num, by rw [HK.out]; exact OW⟩
          case measure => simp [intOf]; omega
      · obtain rfl : k = ds.length - 1 := by omega
        go_wp2
        go_ret2
        exact ⟨⟨A', c', by rw [HL.out, H0.out]; rfl, by rw [HL.out]; exact (OwnI.res ⟨_, _, rfl, hc', HO.out⟩).mono z2 (Nat.le_refl _)⟩, HB.out.trans (Br.mono z2)⟩
  · have hE : (rayE ds ss src co si hy 0 != 0) = true := by simpa using h0
    have HL : Hid (openL ds ss src co si hy = []) := by
      have e : openL ds ss src co si hy = [] := by unfold openL; rw [if_neg h0]
      exact Lib.hid e
    have H := Lib.hid h; have H0 := Lib.hid h0; clear h h0
    go_enter Try.func40, Try.ntmps40
    go_wp2_with (go_at_call 101; refine (l05Code_any _ _ _ _ _ _ _ _ _ _ _ _ ⟨(H.out.1.below (B := w.heap.size) (by first | exact Below.refl _ _ | (go_grown; done) | exact bdrewN (by go_grown) _) (Nat.le_refl _)), (H.out.2.below (B := w.heap.size) (by first | exact Below.refl _ _ | (go_grown; done) | exact bdrewN (by go_grown) _) (Nat.le_refl _))⟩).mono ?_; rintro e w1 ⟨rfl, hb1⟩; obtain ⟨B1, hz1, q1, s1, t1, x1, y1, z1⟩ := bkeep (w := w) [w.heap.size, w.heap.size + 1] (by first | (simp; done) | (simp; omega)) (by first | (go_grown; done) | exact bdrewN (by go_grown) _) hb1; (try simp at hz1); clear hb1)
    go_ret2
    exact ⟨⟨none, 0, by rw [HL.out]; rfl, by rw [HL.out]; exact ResI.nil _ _ _ _ _ (by omega)⟩, (by first | with_reducible exact B1 | (go_grown; done) | with_reducible exact bdrewN B1 _ | (go_grown <;> first | with_reducible exact bdrewN B1 _ | with_reducible exact B1))⟩
end Go.Proofs.Ytkmlcjhlckoajaa
