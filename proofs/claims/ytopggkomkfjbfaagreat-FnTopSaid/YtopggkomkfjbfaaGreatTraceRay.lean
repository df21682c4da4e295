/- TraceRay, by the program and by the reference. -/
import Derived.Test.YtopggkomkfjbfaaGreatTrace3
import Derived.BigRegion
namespace Go.Proofs.YtopggkomkfjbfaaGreat
set_option linter.unusedSimpArgs false
set_option linter.unusedVariables false
open Go.RowKit

/-- the events of TraceRay, and the state behind them -/
@[irreducible] def trL (ds ss : List Int) (src co si hy n : Int) : List Int := if trCo ds ss src co si hy n = 0 then trE ds ss src co hy (rs0 src si) n.toNat else []
@[irreducible] def trX (ds ss : List Int) (src co si hy n : Int) : Rs := if trCo ds ss src co si hy n = 0 then rsAt ds ss src co hy (rs0 src si) n.toNat else ⟨0, false, 0, 0⟩
theorem trL_ok {ds ss : List Int} {src co si hy : Int} {m : Nat} (h : trCo ds ss src co si hy m = 0) : trL ds ss src co si hy m = trE ds ss src co hy (rs0 src si) m := by unfold trL; rw [if_pos h, Int.toNat_natCast]
theorem trX_ok {ds ss : List Int} {src co si hy : Int} {m : Nat} (h : trCo ds ss src co si hy m = 0) : trX ds ss src co si hy m = rsAt ds ss src co hy (rs0 src si) m := by unfold trX; rw [if_pos h, Int.toNat_natCast]
theorem trL_no {ds ss : List Int} {src co si hy n : Int} (h : trCo ds ss src co si hy n ≠ 0) : trL ds ss src co si hy n = [] := by unfold trL; rw [if_neg h]
theorem trX_no {ds ss : List Int} {src co si hy n : Int} (h : trCo ds ss src co si hy n ≠ 0) : trX ds ss src co si hy n = ⟨0, false, 0, 0⟩ := by unfold trX; rw [if_neg h]
theorem trL_len (ds ss : List Int) (src co si hy n : Int) : (trL ds ss src co si hy n).length ≤ 100 := by
  by_cases h : trCo ds ss src co si hy n = 0
  · obtain ⟨-, m, rfl, hm, -⟩ := trCo_zero h
    rw [trL_ok h, trE_len]; exact hm
  · rw [trL_no h]; simp
/-- the cells of the last of the states -/
theorem last_cells {w : World} {lw hw : Nat} {A : Option Addr} {c m : Nat} {ds ss : List Int} {src co hy : Int} {x : Rs} (h : ResK w lw hw A c 4 ((trS ds ss src co hy x (m + 1)).map rsCell)) :
    ∃ b off, A = some ⟨b, off, none⟩ ∧ b < w.heap.size ∧ lw ≤ b ∧ b < hw ∧ w.cell? ⟨b, off + m * 4, none⟩ = some (.int .i64 (rsAt ds ss src co hy x (m + 1)).k) ∧ w.cell? ⟨b, off + m * 4 + 1, none⟩ = some (.bool (rsAt ds ss src co hy x (m + 1)).d) ∧
      w.cell? ⟨b, off + m * 4 + 2, none⟩ = some (.int .i64 (rsAt ds ss src co hy x (m + 1)).lo) ∧ w.cell? ⟨b, off + m * 4 + 3, none⟩ = some (.int .i64 (rsAt ds ss src co hy x (m + 1)).hi) := by
  obtain ⟨b, off, e, rfl, hb, he, hc⟩ := h.at.at_ (i := m) (by rw [List.length_map, trS_len]; omega)
  have hlh : lw ≤ b ∧ b < hw := by
    rcases h.2.2 with e0 | ⟨b', o', e0, h1, h2, -⟩
    · have := congrArg List.length e0
      rw [List.length_map, trS_len] at this
      simp at this
    · simp only [Option.some.injEq, Addr.mk.injEq, and_true] at e0
      obtain ⟨rfl, rfl⟩ := e0
      exact ⟨h1, h2⟩
  rw [List.getElem?_map, trS_get _ _ _ _ _ _ _ _ (by omega)] at he
  simp only [Option.map_some, Option.some.injEq] at he
  subst he
  exact ⟨b, off, rfl, hb, hlh.1, hlh.2, by have := hc 0 _ rfl; simpa using this, hc 1 _ rfl, hc 2 _ rfl, hc 3 _ rfl⟩

set_option maxHeartbeats 4000000 in
theorem specTraceRay_any (A1 A2 : Option Addr) (c1 c2 : Nat) (ds ss : List Int) (src co si hy n : Int) (w : World) (h : ProfAt w A1 c1 A2 c2 ds ss) :
    Calls Tryz.prog 60 #[profV A1 ds.length c1 A2 ss.length c2, .int .i64 src, dirV co si hy, .int .i64 n] w fun e w' =>
      (∃ A' c', e = .returned (.tuple #[.slice A' (trL ds ss src co si hy n).length c', rsV (trX ds ss src co si hy n).k (trX ds ss src co si hy n).d (trX ds ss src co si hy n).lo (trX ds ss src co si hy n).hi, .int .i64 (trCo ds ss src co si hy n)]) ∧ ResI w' w.heap.size w'.heap.size A' c' (trL ds ss src co si hy n)) ∧ Below w.heap.size w w' := by
  by_cases hc : trCo ds ss src co si hy n = 0
  · obtain ⟨r, m, rfl, hm, hr⟩ := trCo_zero hc
    have eL := trL_ok hc; have eX := trX_ok hc
    have lL := trE_len ds ss src co hy (rs0 src si) m
    rw [eL, eX, hc, lL]
    have H := Lib.hid h; have R := Lib.hid r; have HR := Lib.hid hr; have LL := Lib.hid lL; clear h r hr hc eL eX lL
    have TRC : ∀ w, ProfAt w A1 c1 A2 c2 ds ss → _ := fun w h => specTrace_ok A1 A2 c1 c2 ds ss src co si hy m w h R.out hm HR.out
    have TR := Lib.hid TRC; clear TRC
    cases m with
    | zero =>
      go_enter Tryz.func60, Tryz.ntmps60
      go_wp2_with (first
        | (go_at_call 76; refine (TR.out _ ⟨(H.out.1.below (B := w.heap.size) (by first | exact Below.refl _ _ | (go_grown; done) | exact bdrewN (by go_grown) _) (Nat.le_refl _)), (H.out.2.below (B := w.heap.size) (by first | exact Below.refl _ _ | (go_grown; done) | exact bdrewN (by go_grown) _) (Nat.le_refl _))⟩).mono ?_; rintro e w1 ⟨⟨As, cs, Ae, ce, rfl, R1, R2⟩, hb1⟩; clear R1 R2; obtain ⟨B1, hz1, q1, s1, t1, x1, y1, z1⟩ := bkeep (w := w) [w.heap.size, w.heap.size + 1, w.heap.size + 2] (by first | (simp; done) | (simp; omega)) (by first | (go_grown; done) | exact bdrewN (by go_grown) _) hb1; (try simp at hz1); clear hb1)
        | (go_at_call 71; refine (l07First_any _ _ _ _ _).mono ?_; rintro e w2 ⟨rfl, hb2⟩; obtain ⟨B2, hz2, q2, s2, t2, x2, y2, z2⟩ := bkeep (w := w) [w.heap.size, w.heap.size + 1, w.heap.size + 2] (by first | (simp; done) | (simp; omega)) (by first | (go_grown; done) | exact bdrewN (by go_grown) _) hb2; (try simp at hz2); clear hb2))
      refine bodyPost_ret (by simp [results, Tryz.results60, go_sem, *] <;> rfl) rfl ?_
      refine ⟨⟨none, 0, rfl, ResI.nil _ _ _ _ _ (by omega)⟩, ?_⟩
      go_grown
    | succ m =>
      have hne : (((m + 1 : Nat) : Int) == 0) = false := by simp; omega
      go_enter Tryz.func60, Tryz.ntmps60
      go_upto_region 6 with (go_at_call 76; refine (TR.out _ ⟨(H.out.1.below (B := w.heap.size) (by first | exact Below.refl _ _ | (go_grown; done) | exact bdrewN (by go_grown) _) (Nat.le_refl _)), (H.out.2.below (B := w.heap.size) (by first | exact Below.refl _ _ | (go_grown; done) | exact bdrewN (by go_grown) _) (Nat.le_refl _))⟩).mono ?_; rintro e w1 ⟨⟨As, cs, Ae, ce, rfl, R1, R2⟩, hb1⟩; have V1 := Lib.hid (R1.mono (show w.heap.size + 1 + 1 + 1 ≤ _ by first | (simp; done) | (simp; omega)) (Nat.le_refl _)); have V2 := Lib.hid (R2.mono (show w.heap.size + 1 + 1 + 1 ≤ _ by first | (simp; done) | (simp; omega)) (Nat.le_refl _)); clear R1 R2; obtain ⟨bs, os, rfl, hbs, hbl, hbh, cs0, cs1, cs2, cs3⟩ := last_cells V1.out; obtain ⟨B1, hz1, q1, s1, t1, x1, y1, z1⟩ := bkeep (w := w) [w.heap.size, w.heap.size + 1, w.heap.size + 2] (by first | (simp; done) | (simp; omega)) (by first | (go_grown; done) | exact bdrewN (by go_grown) _) hb1; (try simp at hz1); clear hb1)
      refine genS (S := fun w' => Below (w.heap.size) w w' ∧ bs < w'.heap.size ∧ w.heap.size + 1 + 1 < w'.heap.size ∧ w'.cell? ⟨w.heap.size + 1 + 1, 0, none⟩ = some (.int .i64 0) ∧ w'.cell? ⟨w.heap.size + 1 + 1, 1, none⟩ = some (.bool false) ∧ w'.cell? ⟨w.heap.size + 1 + 1, 2, none⟩ = some (.int .i64 0) ∧ w'.cell? ⟨w.heap.size + 1 + 1, 3, none⟩ = some (.int .i64 0) ∧ (∀ o, w'.frozen? ⟨w.heap.size + 1 + 1, o, none⟩ = false) ∧ w'.cell? ⟨bs, os + m * 4, none⟩ = some (.int .i64 (rsAt ds ss src co hy (rs0 src si) (m + 1)).k) ∧ w'.cell? ⟨bs, os + m * 4 + 1, none⟩ = some (.bool (rsAt ds ss src co hy (rs0 src si) (m + 1)).d) ∧ w'.cell? ⟨bs, os + m * 4 + 2, none⟩ = some (.int .i64 (rsAt ds ss src co hy (rs0 src si) (m + 1)).lo) ∧ w'.cell? ⟨bs, os + m * 4 + 3, none⟩ = some (.int .i64 (rsAt ds ss src co hy (rs0 src si) (m + 1)).hi) ∧ ResI w' (w.heap.size + 1 + 1 + 1) w1.heap.size Ae ce (trE ds ss src co hy (rs0 src si) (m + 1)) ∧ w.heap.size + 1 + 1 + 1 ≤ bs ∧ w1.heap.size ≤ w'.heap.size) ⟨(by first | with_reducible exact B1 | (go_grown; done) | with_reducible exact bdrewN B1 _ | (go_grown <;> first | with_reducible exact bdrewN B1 _ | with_reducible exact B1)), by first | omega | (simp; done) | (simp; omega), by first | omega | (simp; done) | (simp; omega), by simp [*, go_sem], by simp [*, go_sem], by simp [*, go_sem], by simp [*, go_sem], fun o => by simp [*, go_sem], by simp [*, go_sem], by simp [*, go_sem], by simp [*, go_sem], by simp [*, go_sem], V2.out.kept (by repeat' (first | with_reducible exact Keep.refl _ _ _ | with_reducible refine Keep.setB ?_ ?_ _ | with_reducible refine Keep.alloc ?_ ?_ _ | with_reducible refine Keep.drew ?_ | omega | (simp; done) | (simp; omega))), by first | exact hbl | omega, by first | omega | (simp; done) | (simp; omega)⟩ ?_
      clear q1 s1 t1 x1 y1 cs0 cs1 cs2 cs3 V1 V2
      rintro w2 ⟨B2, lt2_0, lt2_1, c2_0, c2_1, c2_2, c2_3, fz2_0, d0, d1, d2, d3, G2, gb, gc⟩
      have z2 : w.heap.size ≤ w2.heap.size := B2.size
      have U2 := Lib.hid G2; clear G2
      have nb1 : bs ≠ w.heap.size + 1 + 1 := by omega
      have nb2 : w.heap.size + 1 + 1 ≠ bs := by omega
      go_region
      go_wp2
      refine bodyPost_ret (by simp [results, Tryz.results60, go_sem, *] <;> rfl) rfl ?_
      refine ⟨⟨Ae, ce, rfl, ?_⟩, ?_⟩
      · refine ResI.mono (U2.out.kept ?_) (show w.heap.size ≤ w.heap.size + 1 + 1 + 1 by omega) ?_
        · exact (by repeat' (first | with_reducible exact Keep.refl _ _ _ | with_reducible refine Keep.setB ?_ ?_ _ | with_reducible refine Keep.alloc ?_ ?_ _ | with_reducible refine Keep.drew ?_ | omega | (simp; done) | (simp; omega)))
        · first | omega | (simp; done) | (simp; omega)
      · go_grown
  · have eL := trL_no hc; have eX := trX_no hc
    have hE2 : (trCo ds ss src co si hy n != 0) = true := by simpa using hc
    have H := Lib.hid h; have HC := Lib.hid hc; have EL := Lib.hid eL; have EX := Lib.hid eX; clear h hc eL eX
    go_enter Tryz.func60, Tryz.ntmps60
    go_wp2_with (go_at_call 76; refine (specTrace_no _ _ _ _ _ _ _ _ _ _ _ _ ⟨(H.out.1.below (B := w.heap.size) (by first | exact Below.refl _ _ | (go_grown; done) | exact bdrewN (by go_grown) _) (Nat.le_refl _)), (H.out.2.below (B := w.heap.size) (by first | exact Below.refl _ _ | (go_grown; done) | exact bdrewN (by go_grown) _) (Nat.le_refl _))⟩ HC.out).mono ?_; rintro e w1 ⟨rfl, hb1⟩; obtain ⟨B1, hz1, q1, s1, t1, x1, y1, z1⟩ := bkeep (w := w) [w.heap.size, w.heap.size + 1, w.heap.size + 2] (by first | (simp; done) | (simp; omega)) (by first | (go_grown; done) | exact bdrewN (by go_grown) _) hb1; (try simp at hz1); clear hb1)
    refine bodyPost_ret (by simp [results, Tryz.results60, go_sem, *] <;> rfl) rfl ?_
    refine ⟨⟨none, 0, by rw [EL.out, EX.out]; rfl, by rw [EL.out]; exact ResI.nil _ _ _ _ _ (by omega)⟩, ?_⟩
    go_grown
set_option maxHeartbeats 4000000 in
theorem implTraceRay_any (A1 A2 : Option Addr) (c1 c2 : Nat) (ds ss : List Int) (src co si hy n : Int) (w : World) (h : ProfAt w A1 c1 A2 c2 ds ss) :
    Calls Tryz.prog 14 #[profV A1 ds.length c1 A2 ss.length c2, .int .i64 src, dirV co si hy, .int .i64 n] w fun e w' =>
      (∃ A' c', e = .returned (.tuple #[.slice A' (trL ds ss src co si hy n).length c', rsV (trX ds ss src co si hy n).k (trX ds ss src co si hy n).d (trX ds ss src co si hy n).lo (trX ds ss src co si hy n).hi, .int .i64 (trCo ds ss src co si hy n)]) ∧ ResI w' w.heap.size w'.heap.size A' c' (trL ds ss src co si hy n)) ∧ Below w.heap.size w w' := by
  by_cases hc : trCo ds ss src co si hy n = 0
  · obtain ⟨r, m, rfl, hm, hr⟩ := trCo_zero hc
    have eL := trL_ok hc; have eX := trX_ok hc
    have lL := trE_len ds ss src co hy (rs0 src si) m
    rw [eL, eX, hc, lL]
    have H := Lib.hid h; have R := Lib.hid r; have HR := Lib.hid hr; have LL := Lib.hid lL; clear h r hr hc eL eX lL
    have TRC : ∀ w, ProfAt w A1 c1 A2 c2 ds ss → _ := fun w h => traceOf_ok A1 A2 c1 c2 ds ss src co si hy m w h R.out hm HR.out
    have TR := Lib.hid TRC; clear TRC
    cases m with
    | zero =>
      go_enter Tryz.func14, Tryz.ntmps14
      go_upto_region 4 with (go_at_call 31; refine (TR.out _ ⟨(H.out.1.below (B := w.heap.size) (by first | exact Below.refl _ _ | (go_grown; done) | exact bdrewN (by go_grown) _) (Nat.le_refl _)), (H.out.2.below (B := w.heap.size) (by first | exact Below.refl _ _ | (go_grown; done) | exact bdrewN (by go_grown) _) (Nat.le_refl _))⟩).mono ?_; rintro e w1 ⟨⟨Ae, ce, As, cs, Ad, cd, rfl, R1, R2, R3⟩, hb1⟩; clear R3; have V1 := Lib.hid (R1.mono (show w.heap.size + 1 + 1 + 1 ≤ _ by first | (simp; done) | (simp; omega)) (Nat.le_refl _)); have V2 := Lib.hid (R2.mono (show w.heap.size + 1 + 1 + 1 ≤ _ by first | (simp; done) | (simp; omega)) (Nat.le_refl _)); clear R1 R2; obtain ⟨B1, hz1, q1, s1, t1, x1, y1, z1⟩ := bkeep (w := w) [w.heap.size, w.heap.size + 1, w.heap.size + 2] (by first | (simp; done) | (simp; omega)) (by first | (go_grown; done) | exact bdrewN (by go_grown) _) hb1; (try simp at hz1); clear hb1)
      have ne1 : w.heap.size + 1 + 1 ≠ w1.heap.size := by omega
      have nf1 : w1.heap.size ≠ w.heap.size + 1 + 1 := by omega
      have ne2 : w.heap.size + 1 + 1 ≠ w1.heap.size + 1 := by omega
      have nf2 : w1.heap.size + 1 ≠ w.heap.size + 1 + 1 := by omega
      refine genS (S := fun w' => Below (w.heap.size) w w' ∧ w.heap.size + 1 + 1 < w'.heap.size ∧ w1.heap.size < w'.heap.size ∧ w1.heap.size + 1 < w'.heap.size ∧ w'.cell? ⟨w.heap.size + 1 + 1, 0, none⟩ = some (.int .i64 0) ∧ w'.cell? ⟨w.heap.size + 1 + 1, 1, none⟩ = some (.bool false) ∧ w'.cell? ⟨w.heap.size + 1 + 1, 2, none⟩ = some (.int .i64 0) ∧ w'.cell? ⟨w.heap.size + 1 + 1, 3, none⟩ = some (.int .i64 0) ∧ w'.cell? ⟨w1.heap.size, 0, none⟩ = some (.slice A1 ds.length c1) ∧ w'.cell? ⟨w1.heap.size, 1, none⟩ = some (.slice A2 ss.length c2) ∧ w'.cell? ⟨w1.heap.size, 2, none⟩ = some (.int .i64 src) ∧ w'.cell? ⟨w1.heap.size, 3, none⟩ = some (.int .i64 co) ∧ w'.cell? ⟨w1.heap.size, 4, none⟩ = some (.int .i64 si) ∧ w'.cell? ⟨w1.heap.size, 5, none⟩ = some (.int .i64 hy) ∧ w'.cell? ⟨w1.heap.size + 1, 0, none⟩ = some (.slice Ae (0) ce) ∧ w'.cell? ⟨w1.heap.size + 1, 1, none⟩ = some (.slice As (0) cs) ∧ w'.cell? ⟨w1.heap.size + 1, 2, none⟩ = some (.slice Ad (0) cd) ∧ (∀ o, w'.frozen? ⟨w.heap.size + 1 + 1, o, none⟩ = false) ∧ ResI w' (w.heap.size + 1 + 1 + 1) w1.heap.size Ae ce (trE ds ss src co hy (rs0 src si) (0))) ⟨(by first | with_reducible exact B1 | (go_grown; done) | with_reducible exact bdrewN B1 _ | (go_grown <;> first | with_reducible exact bdrewN B1 _ | with_reducible exact B1)), by first | omega | (simp; done) | (simp; omega), by first | omega | (simp; done) | (simp; omega), by first | omega | (simp; done) | (simp; omega), by simp [*, go_sem], by simp [*, go_sem], by simp [*, go_sem], by simp [*, go_sem], by simp [*, go_sem], by simp [*, go_sem], by simp [*, go_sem], by simp [*, go_sem], by simp [*, go_sem], by simp [*, go_sem], by simp [*, go_sem], by simp [*, go_sem], by simp [*, go_sem], fun o => by simp [*, go_sem], V1.out.kept (by repeat' (first | with_reducible exact Keep.refl _ _ _ | with_reducible refine Keep.setB ?_ ?_ _ | with_reducible refine Keep.alloc ?_ ?_ _ | with_reducible refine Keep.drew ?_ | omega | (simp; done) | (simp; omega)))⟩ ?_
      clear q1 s1 t1 x1 y1 V1 V2
      rintro w2 ⟨B2, lt2_0, lt2_1, lt2_2, c2_0, c2_1, c2_2, c2_3, c2_4, c2_5, c2_6, c2_7, c2_8, c2_9, c2_10, c2_11, c2_12, fz2_0, G1⟩
      have z2 : w.heap.size ≤ w2.heap.size := B2.size
      have U1 := Lib.hid G1; clear G1
      go_region_held3 (fun w' => w'.cell? ⟨w1.heap.size, 0, none⟩ = some (.slice A1 ds.length c1) ∧ w'.cell? ⟨w1.heap.size, 1, none⟩ = some (.slice A2 ss.length c2) ∧ w'.cell? ⟨w1.heap.size, 2, none⟩ = some (.int .i64 src) ∧ w'.cell? ⟨w1.heap.size, 3, none⟩ = some (.int .i64 co) ∧ w'.cell? ⟨w1.heap.size, 4, none⟩ = some (.int .i64 si) ∧ w'.cell? ⟨w1.heap.size, 5, none⟩ = some (.int .i64 hy) ∧ w'.cell? ⟨w1.heap.size + 1, 0, none⟩ = some (.slice Ae (0) ce) ∧ w'.cell? ⟨w1.heap.size + 1, 1, none⟩ = some (.slice As (0) cs) ∧ w'.cell? ⟨w1.heap.size + 1, 2, none⟩ = some (.slice Ad (0) cd)) (first | (go_keep; done) | (simp [*, go_sem]; done))
        (first
          | (go_at_call 32; refine (last_zero _ _ _ _ _ _ _ _ _ _ _ _ _ _ _).mono ?_; rintro e w3 ⟨rfl, hb3⟩; have S3 : Below w2.heap.size w2 w3 := Below.trans (by first | (go_grown; done) | exact bdrewN (Below.refl _ _) _) hb3; obtain ⟨B3, hz3, q3, s3, t3, x3, y3, z3⟩ := bkeep (w := w) [w.heap.size + 2, w1.heap.size, w1.heap.size+1] (by first | (simp; done) | (simp; omega)) (by first | (go_grown; done) | exact bdrewN (by go_grown) _) hb3; (try simp at hz3); clear hb3))
      go_wp2
      refine bodyPost_ret (by simp [results, Tryz.results14, go_sem, *] <;> rfl) rfl ?_
      refine ⟨⟨Ae, ce, rfl, ?_⟩, ?_⟩
      · refine ResI.mono (ResI.kept ((U1.out.below (B := w2.heap.size) (w1 := w3) (by first | exact S3 | (go_grown; done)) (by omega))) ?_) (show w.heap.size ≤ w.heap.size + 1 + 1 + 1 by omega) ?_
        · exact (by repeat' (first | with_reducible exact Keep.refl _ _ _ | with_reducible refine Keep.setB ?_ ?_ _ | with_reducible refine Keep.alloc ?_ ?_ _ | with_reducible refine Keep.drew ?_ | omega | (simp; done) | (simp; omega)))
        · first | omega | (simp; done) | (simp; omega)
      · go_grown
    | succ m =>
      go_enter Tryz.func14, Tryz.ntmps14
      go_upto_region 4 with (go_at_call 31; refine (TR.out _ ⟨(H.out.1.below (B := w.heap.size) (by first | exact Below.refl _ _ | (go_grown; done) | exact bdrewN (by go_grown) _) (Nat.le_refl _)), (H.out.2.below (B := w.heap.size) (by first | exact Below.refl _ _ | (go_grown; done) | exact bdrewN (by go_grown) _) (Nat.le_refl _))⟩).mono ?_; rintro e w1 ⟨⟨Ae, ce, As, cs, Ad, cd, rfl, R1, R2, R3⟩, hb1⟩; clear R3; have V1 := Lib.hid (R1.mono (show w.heap.size + 1 + 1 + 1 ≤ _ by first | (simp; done) | (simp; omega)) (Nat.le_refl _)); have V2 := Lib.hid (R2.mono (show w.heap.size + 1 + 1 + 1 ≤ _ by first | (simp; done) | (simp; omega)) (Nat.le_refl _)); clear R1 R2; obtain ⟨bs, os, rfl, hbs, hbl, hbh, cs0, cs1, cs2, cs3⟩ := last_cells V2.out; obtain ⟨B1, hz1, q1, s1, t1, x1, y1, z1⟩ := bkeep (w := w) [w.heap.size, w.heap.size + 1, w.heap.size + 2] (by first | (simp; done) | (simp; omega)) (by first | (go_grown; done) | exact bdrewN (by go_grown) _) hb1; (try simp at hz1); clear hb1)
      have ne1 : w.heap.size + 1 + 1 ≠ w1.heap.size := by omega
      have nf1 : w1.heap.size ≠ w.heap.size + 1 + 1 := by omega
      have ne2 : w.heap.size + 1 + 1 ≠ w1.heap.size + 1 := by omega
      have nf2 : w1.heap.size + 1 ≠ w.heap.size + 1 + 1 := by omega
      refine genS (S := fun w' => Below (w.heap.size) w w' ∧ w.heap.size + 1 + 1 < w'.heap.size ∧ w1.heap.size < w'.heap.size ∧ w1.heap.size + 1 < w'.heap.size ∧ w'.cell? ⟨w.heap.size + 1 + 1, 0, none⟩ = some (.int .i64 0) ∧ w'.cell? ⟨w.heap.size + 1 + 1, 1, none⟩ = some (.bool false) ∧ w'.cell? ⟨w.heap.size + 1 + 1, 2, none⟩ = some (.int .i64 0) ∧ w'.cell? ⟨w.heap.size + 1 + 1, 3, none⟩ = some (.int .i64 0) ∧ w'.cell? ⟨w1.heap.size, 0, none⟩ = some (.slice A1 ds.length c1) ∧ w'.cell? ⟨w1.heap.size, 1, none⟩ = some (.slice A2 ss.length c2) ∧ w'.cell? ⟨w1.heap.size, 2, none⟩ = some (.int .i64 src) ∧ w'.cell? ⟨w1.heap.size, 3, none⟩ = some (.int .i64 co) ∧ w'.cell? ⟨w1.heap.size, 4, none⟩ = some (.int .i64 si) ∧ w'.cell? ⟨w1.heap.size, 5, none⟩ = some (.int .i64 hy) ∧ w'.cell? ⟨w1.heap.size + 1, 0, none⟩ = some (.slice Ae (m + 1) ce) ∧ w'.cell? ⟨w1.heap.size + 1, 1, none⟩ = some (.slice (some ⟨bs, os, none⟩) (m + 1) cs) ∧ w'.cell? ⟨w1.heap.size + 1, 2, none⟩ = some (.slice Ad (m + 1) cd) ∧ (∀ o, w'.frozen? ⟨w.heap.size + 1 + 1, o, none⟩ = false) ∧ ResI w' (w.heap.size + 1 + 1 + 1) w1.heap.size Ae ce (trE ds ss src co hy (rs0 src si) (m + 1)) ∧ w'.cell? ⟨bs, os + m * 4, none⟩ = some (.int .i64 (rsAt ds ss src co hy (rs0 src si) (m + 1)).k) ∧ w'.cell? ⟨bs, os + m * 4 + 1, none⟩ = some (.bool (rsAt ds ss src co hy (rs0 src si) (m + 1)).d) ∧ w'.cell? ⟨bs, os + m * 4 + 2, none⟩ = some (.int .i64 (rsAt ds ss src co hy (rs0 src si) (m + 1)).lo) ∧ w'.cell? ⟨bs, os + m * 4 + 3, none⟩ = some (.int .i64 (rsAt ds ss src co hy (rs0 src si) (m + 1)).hi) ∧ bs < w'.heap.size) ⟨(by first | with_reducible exact B1 | (go_grown; done) | with_reducible exact bdrewN B1 _ | (go_grown <;> first | with_reducible exact bdrewN B1 _ | with_reducible exact B1)), by first | omega | (simp; done) | (simp; omega), by first | omega | (simp; done) | (simp; omega), by first | omega | (simp; done) | (simp; omega), by simp [*, go_sem], by simp [*, go_sem], by simp [*, go_sem], by simp [*, go_sem], by simp [*, go_sem], by simp [*, go_sem], by simp [*, go_sem], by simp [*, go_sem], by simp [*, go_sem], by simp [*, go_sem], by simp [*, go_sem], by simp [*, go_sem], by simp [*, go_sem], fun o => by simp [*, go_sem], V1.out.kept (by repeat' (first | with_reducible exact Keep.refl _ _ _ | with_reducible refine Keep.setB ?_ ?_ _ | with_reducible refine Keep.alloc ?_ ?_ _ | with_reducible refine Keep.drew ?_ | omega | (simp; done) | (simp; omega))), by simp [*, go_sem], by simp [*, go_sem], by simp [*, go_sem], by simp [*, go_sem], by first | omega | (simp; done) | (simp; omega)⟩ ?_
      clear q1 s1 t1 x1 y1 V1 V2 cs0 cs1 cs2 cs3
      rintro w2 ⟨B2, lt2_0, lt2_1, lt2_2, c2_0, c2_1, c2_2, c2_3, c2_4, c2_5, c2_6, c2_7, c2_8, c2_9, c2_10, c2_11, c2_12, fz2_0, G1, d0, d1, d2, d3, gb⟩
      have z2 : w.heap.size ≤ w2.heap.size := B2.size
      have U1 := Lib.hid G1; clear G1
      go_region_held3 (fun w' => w'.cell? ⟨w1.heap.size, 0, none⟩ = some (.slice A1 ds.length c1) ∧ w'.cell? ⟨w1.heap.size, 1, none⟩ = some (.slice A2 ss.length c2) ∧ w'.cell? ⟨w1.heap.size, 2, none⟩ = some (.int .i64 src) ∧ w'.cell? ⟨w1.heap.size, 3, none⟩ = some (.int .i64 co) ∧ w'.cell? ⟨w1.heap.size, 4, none⟩ = some (.int .i64 si) ∧ w'.cell? ⟨w1.heap.size, 5, none⟩ = some (.int .i64 hy) ∧ w'.cell? ⟨w1.heap.size + 1, 0, none⟩ = some (.slice Ae (m + 1) ce) ∧ w'.cell? ⟨w1.heap.size + 1, 1, none⟩ = some (.slice (some ⟨bs, os, none⟩) (m + 1) cs) ∧ w'.cell? ⟨w1.heap.size + 1, 2, none⟩ = some (.slice Ad (m + 1) cd)) (first | (go_keep; done) | (simp [*, go_sem]; done))
        (first
          | (go_at_call 32; refine (last_some _ _ _ _ _ _ _ _ _ _ _ _ bs os m _ (rsAt ds ss src co hy (rs0 src si) (m + 1)) _ (by omega) (by first | exact d0 | (simp; exact d0)) (by first | exact d1 | (simp; exact d1)) (by first | exact d2 | (simp; exact d2)) (by first | exact d3 | (simp; exact d3)) (by first | omega | (simp; omega))).mono ?_; rintro e w3 ⟨rfl, hb3⟩; have S3 : Below w2.heap.size w2 w3 := Below.trans (by first | (go_grown; done) | exact bdrewN (Below.refl _ _) _) hb3; obtain ⟨B3, hz3, q3, s3, t3, x3, y3, z3⟩ := bkeep (w := w) [w.heap.size + 2, w1.heap.size, w1.heap.size+1] (by first | (simp; done) | (simp; omega)) (by first | (go_grown; done) | exact bdrewN (by go_grown) _) hb3; (try simp at hz3); clear hb3))
      go_wp2
      refine bodyPost_ret (by simp [results, Tryz.results14, go_sem, *] <;> rfl) rfl ?_
      refine ⟨⟨Ae, ce, rfl, ?_⟩, ?_⟩
      · refine ResI.mono (ResI.kept ((U1.out.below (B := w2.heap.size) (w1 := w3) (by first | exact S3 | (go_grown; done)) (by omega))) ?_) (show w.heap.size ≤ w.heap.size + 1 + 1 + 1 by omega) ?_
        · exact (by repeat' (first | with_reducible exact Keep.refl _ _ _ | with_reducible refine Keep.setB ?_ ?_ _ | with_reducible refine Keep.alloc ?_ ?_ _ | with_reducible refine Keep.drew ?_ | omega | (simp; done) | (simp; omega)))
        · first | omega | (simp; done) | (simp; omega)
      · go_grown
  · have eL := trL_no hc; have eX := trX_no hc
    have hE2 : (trCo ds ss src co si hy n != 0) = true := by simpa using hc
    have H := Lib.hid h; have HC := Lib.hid hc; have EL := Lib.hid eL; have EX := Lib.hid eX; clear h hc eL eX
    go_enter Tryz.func14, Tryz.ntmps14
    go_wp2_with (go_at_call 31; refine (traceOf_no _ _ _ _ _ _ _ _ _ _ _ _ ⟨(H.out.1.below (B := w.heap.size) (by first | exact Below.refl _ _ | (go_grown; done) | exact bdrewN (by go_grown) _) (Nat.le_refl _)), (H.out.2.below (B := w.heap.size) (by first | exact Below.refl _ _ | (go_grown; done) | exact bdrewN (by go_grown) _) (Nat.le_refl _))⟩ HC.out).mono ?_; rintro e w1 ⟨⟨r0, r1, r2, r3, r4, r5, r6, r7, r8, r9, rfl⟩, hb1⟩; obtain ⟨B1, hz1, q1, s1, t1, x1, y1, z1⟩ := bkeep (w := w) [w.heap.size, w.heap.size + 1, w.heap.size + 2] (by first | (simp; done) | (simp; omega)) (by first | (go_grown; done) | exact bdrewN (by go_grown) _) hb1; (try simp at hz1); clear hb1)
    refine bodyPost_ret (by simp [results, Tryz.results14, go_sem, *] <;> rfl) rfl ?_
    refine ⟨⟨none, 0, by rw [EL.out, EX.out]; rfl, by rw [EL.out]; exact ResI.nil _ _ _ _ _ (by omega)⟩, ?_⟩
    go_grown
end Go.Proofs.YtopggkomkfjbfaaGreat
