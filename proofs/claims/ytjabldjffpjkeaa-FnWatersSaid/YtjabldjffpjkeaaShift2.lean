/- A gauge shifted: what ShiftGauge returns, by the reference. -/
import Derived.Test.YtjabldjffpjkeaaShift
import Derived.IntWalk
import Derived.Deep.DeepCutAuto
namespace Go.Proofs.Ytjabldjffpjkeaa
set_option linter.unusedSimpArgs false
set_option linter.unusedVariables false
open Go.RowKit

set_option maxRecDepth 100000 in
set_option maxHeartbeats 8000000 in
theorem specShift_any (A1 A2 : Option Addr) (c1 c2 : Nat) (ts ls : List Int) (a b : Int) (w : World) (h : ProfAt w A1 c1 A2 c2 ts ls) :
    Calls Try.prog 45 #[profV A1 ts.length c1 A2 ls.length c2, .int .i64 a, .int .i64 b] w fun e w' => (∃ B1 d1 B2 d2, e = .returned (.tuple #[profV B1 (shT ts ls a b).length d1 B2 (shL ts ls a b).length d2, .int .i64 (shC ts ls a b)]) ∧ ResP w' w.heap.size w'.heap.size B1 d1 B2 d2 (shT ts ls a b) (shL ts ls a b)) ∧ Below w.heap.size w w' := by
  by_cases hp : gauB ts ls = true
  · by_cases hr : (inB a (-1000000) 1000000 && inB b (-2000) 2000) = true
    · obtain ⟨l1, l2, l3', gt, -, gv⟩ := gau_is hp
      have l3 : ls.length ≤ ts.length := by omega
      have l4 : ts.length ≤ ls.length := by omega
      clear l3'
      have hra : inB a (-1000000) 1000000 = true := by rw [Bool.and_eq_true] at hr; exact hr.1
      have hrb : inB b (-2000) 2000 = true := by rw [Bool.and_eq_true] at hr; exact hr.2
      have ha := inB_bd hra
      have hb := inB_bd hrb
      have H := Lib.hid h; have GT := Lib.hid gt; have GV := Lib.hid gv; have HR := Lib.hid hr; clear h gt gv hr
      go_enter Try.func45, Try.ntmps45
      go_wp2_with (first
        | (go_at_call 49; refine (specIsGauge_any _ _ _ _ _ _ _ ⟨(H.out.1.below (B := w.heap.size) (by first | exact Below.refl _ _ | (go_grown; done) | exact bdrewN (by go_grown) _) (Nat.le_refl _)), (H.out.2.below (B := w.heap.size) (by first | exact Below.refl _ _ | (go_grown; done) | exact bdrewN (by go_grown) _) (Nat.le_refl _))⟩).mono ?_; rintro e w1 ⟨rfl, hb1⟩; obtain ⟨B1, hz1, q1, s1, t1, x1, y1, z1⟩ := bkeep (w := w) [w.heap.size, w.heap.size + 1] (by first | (simp; done) | (simp; omega)) (by first | (go_grown; done) | exact bdrewN (by go_grown) _) hb1; (try simp at hz1); clear hb1)
        | (go_at_call 56; refine (l01In_any _ _ _ _).mono ?_; rintro e w' ⟨rfl, rfl⟩))
      have hlt1 : w.heap.size + 1 < w1.heap.size := by omega
      obtain ⟨ne_a1, ne_b1, ne_a2, ne_b2, ne_a3, ne_b3, ne_a4, ne_b4, ne_a5, ne_b5, ne_a6, ne_b6⟩ : w.heap.size ≠ w1.heap.size ∧ w1.heap.size ≠ w.heap.size ∧ w.heap.size ≠ w1.heap.size + 1 ∧ w1.heap.size + 1 ≠ w.heap.size ∧ w.heap.size ≠ w1.heap.size + 1 + 1 ∧ w1.heap.size + 1 + 1 ≠ w.heap.size ∧ w.heap.size + 1 ≠ w1.heap.size ∧ w1.heap.size ≠ w.heap.size + 1 ∧ w.heap.size + 1 ≠ w1.heap.size + 1 ∧ w1.heap.size + 1 ≠ w.heap.size + 1 ∧ w.heap.size + 1 ≠ w1.heap.size + 1 + 1 ∧ w1.heap.size + 1 + 1 ≠ w.heap.size + 1 := by
        refine ⟨?_, ?_, ?_, ?_, ?_, ?_, ?_, ?_, ?_, ?_, ?_, ?_⟩ <;> omega
      have la1_0 : w.heap.size < w1.heap.size := by omega
      have lb1_0 : w.heap.size < w1.heap.size + 1 := by omega
      have lc1_0 : w.heap.size < w1.heap.size + 1 + 1 := by omega
      have la1_1 : w.heap.size + 1 < w1.heap.size := by omega
      have lb1_1 : w.heap.size + 1 < w1.heap.size + 1 := by omega
      have lc1_1 : w.heap.size + 1 < w1.heap.size + 1 + 1 := by omega
      refine genS (S := fun w' => Below (w.heap.size) w w' ∧ w.heap.size + 1 < w'.heap.size ∧ w1.heap.size + 1 + 1 < w'.heap.size ∧ w'.cell? ⟨w.heap.size, 0, none⟩ = some (.slice A1 ts.length c1) ∧ w'.cell? ⟨w.heap.size, 1, none⟩ = some (.slice A2 ls.length c2) ∧ w'.cell? ⟨w.heap.size + 1, 0, none⟩ = some (.slice none 0 0) ∧ w'.cell? ⟨w.heap.size + 1, 1, none⟩ = some (.slice none 0 0) ∧ w'.cell? ⟨w1.heap.size + 1 + 1, 0, none⟩ = some (.slice (some ⟨w1.heap.size, 0, none⟩) 0 0) ∧ w'.cell? ⟨w1.heap.size + 1 + 1, 1, none⟩ = some (.slice (some ⟨w1.heap.size + 1, 0, none⟩) 0 0) ∧ (∀ o, w'.frozen? ⟨w.heap.size + 1, o, none⟩ = false) ∧ (∀ o, w'.frozen? ⟨w1.heap.size + 1 + 1, o, none⟩ = false) ∧ Two w' (w1.heap.size) (w1.heap.size + 1 + 1) (.slice (some ⟨w1.heap.size, 0, none⟩) 0 0) (.slice (some ⟨w1.heap.size + 1, 0, none⟩) 0 0) [] []) ⟨(by first | with_reducible exact B1 | (go_grown; done) | with_reducible exact bdrewN B1 _ | (go_grown <;> first | with_reducible exact bdrewN B1 _ | with_reducible exact B1)), by first | omega | (simp; done) | (simp; omega), by first | omega | (simp; done) | (simp; omega), by simp [*, go_sem], by simp [*, go_sem], by simp [*, go_sem], by simp [*, go_sem], by simp [*, go_sem], by simp [*, go_sem], fun o => by simp [*, go_sem], fun o => by simp [*, go_sem], (Two.zero w1 _).keep (by repeat' (first | with_reducible exact KeepX.refl _ _ _ _ | with_reducible refine KeepX.setB ?_ ?_ _ | with_reducible refine KeepX.alloc ?_ ?_ _ | with_reducible refine KeepX.drew ?_ | omega | (simp; done) | (simp; omega)))⟩ ?_
      clear q1 s1 t1 x1 y1
      rintro w3 ⟨B3, lt3_0, lt3_1, c3_0, c3_1, c3_2, c3_3, c3_4, c3_5, fz3_0, fz3_1, TZ⟩
      have z3 : w.heap.size ≤ w3.heap.size := B3.size
      have HB := Lib.hid B3; clear B3
      have HTZ := Lib.hid TZ; clear TZ
      go_loopw [9] (fun i wr => ∃ (k : Nat) (v1 v2 : Value), k ≤ ts.length ∧ i = .int .i64 k ∧ Below w1.heap.size w3 wr ∧ w1.heap.size + 1 + 1 < wr.heap.size ∧ wr.cell? ⟨w1.heap.size + 1 + 1, 0, none⟩ = some v1 ∧ wr.cell? ⟨w1.heap.size + 1 + 1, 1, none⟩ = some v2 ∧ (∀ o, wr.frozen? ⟨w1.heap.size + 1 + 1, o, none⟩ = false) ∧ Two wr (w1.heap.size) (w1.heap.size + 1 + 1) v1 v2 (shF ts a k) (shF ls b k)) (fun i _ => ts.length - (intOf i).toNat)
      case atStart => exact ⟨0, _, _, by omega, rfl, Below.refl _ _, lt3_1, c3_4, c3_5, fz3_1, HTZ.out⟩
      case round =>
        obtain ⟨k, v1, v2, hk, rfl, Br, lx, T0, T1, fx, T⟩ := hrel
        obtain ⟨A4, c4, e4, hc4, -⟩ := T.o1; obtain ⟨A5, c5, e5, hc5, -⟩ := T.o2
        subst e4 e5
        have TT := Lib.hid T; have HBr := Lib.hid Br; clear T
        have sr : w3.heap.size ≤ wr.heap.size := Br.size
        have g0 := (bAt Br (b := w.heap.size) (o := 0) (by omega)).trans c3_0
        have g1 := (bAt Br (b := w.heap.size) (o := 1) (by omega)).trans c3_1
        have HP := Lib.hid (H.out.below (HB.out.trans (Br.mono (by omega))) (Nat.le_refl _))
        by_cases hlt : k < ts.length
        · obtain ⟨b1, o1, x, rfl, hb1, hx, cx⟩ := HP.out.1.at_ hlt
          obtain ⟨b2, o2, y, rfl, hb2, hy, cy⟩ := HP.out.2.at_ (show k < ls.length by omega)
          have bx := GT.out _ _ hx; have bY := GV.out _ _ hy
          have HX := Lib.hid hx; have HY := Lib.hid hy; clear hx hy
          have kk1 : (k : Int) < ts.length := by omega
          have kk2 : (k : Int) < ls.length := by omega
          have kk0 : (0 : Int) ≤ k := by omega
          have W1 : IntKind.i64.wrap (x + a) = x + a := IntWalk.i64_in _ (by omega)
          have W2 : IntKind.i64.wrap (y + b) = y + b := IntWalk.i64_in _ (by omega)
          have G0 := Lib.hid c3_0; have G1 := Lib.hid c3_1
          have hcy : ∀ w5, Below w.heap.size w w5 → w5.cell? ⟨b2, o2 + k, none⟩ = some (.int .i64 y) := fun w5 hb5 => by
            obtain ⟨b2', o2', y', e2', -, hy', cy'⟩ := (H.out.2.below hb5 (Nat.le_refl _)).at_ (show k < ls.length by omega)
            simp only [Option.some.injEq, Addr.mk.injEq, and_true] at e2'
            obtain ⟨rfl, rfl⟩ := e2'
            rw [HY.out] at hy'
            injection hy' with hy'
            subst hy'
            exact cy'
          have CY := Lib.hid hcy
          clear c3_0 c3_1 c3_2 c3_3 c3_4 c3_5 fz3_0 fz3_1 Br hcy
          go_wp2_with fail
          go_cut [] (fun wx => ∃ A14 c14, Below w1.heap.size w3 wx ∧ w1.heap.size + 1 + 1 < wx.heap.size ∧ wx.cell? ⟨w1.heap.size + 1 + 1, 0, none⟩ = some (.slice A14 ((shF ts a k).length + 1) c14) ∧ wx.cell? ⟨w1.heap.size + 1 + 1, 1, none⟩ = some (.slice A5 (shF ls b k).length c5) ∧ (∀ o, wx.frozen? ⟨w1.heap.size + 1 + 1, o, none⟩ = false) ∧ Two wx (w1.heap.size) (w1.heap.size + 1 + 1) (.slice A14 ((shF ts a k).length + 1) c14) (.slice A5 (shF ls b k).length c5) (shF ts a k ++ [x + a]) (shF ls b k))
          case first =>
            go_region_law (refine stepTwo rfl _ _ rfl (w1.heap.size) (w1.heap.size + 1 + 1) _ _ _ _ (x + a) _ rfl rfl ?_ (TT.out.keep (by repeat' (first | with_reducible exact KeepX.refl _ _ _ _ | with_reducible refine KeepX.setB ?_ ?_ _ | with_reducible refine KeepX.alloc ?_ ?_ _ | with_reducible refine KeepX.drew ?_ | omega | (simp; done) | (simp; omega)))) ?_ ?_ ?_ ?_; (focus (simp [*, go_sem]; done)); (focus (rw [shF_len (by omega)]; omega)); (focus (first | omega | (simp; omega))); (focus (first | omega | (simp; omega))); intro A14 c14 w4 T4 F4; obtain ⟨q4, s4, x4, y4⟩ := fkeep [w.heap.size, w.heap.size + 1, w1.heap.size + 1 + 1] (by first | (simp; done) | (simp; omega)) F4; have TT4 := Lib.hid T4; clear T4; have FF4 := Lib.hid F4; have z4 := F4.size; (try simp only [World.size_alloc, World.size_drew, size_set] at z4); have C4 : Below w1.heap.size w3 w4 := F4.below (by have hb_ := HBr.out; first | exact hb_ | (go_grown; done)) (by omega) (by first | omega | (simp; omega)); clear F4)
            all_goals (try go_wp2_with fail)
            all_goals go_meet
            all_goals exact ⟨A14, c14, (by first | exact C4 | (go_grown; done)), (by first | omega | (simp; done) | (simp; omega)), by simp [*, go_sem], by simp [*, go_sem], fun o => by simp [*, go_sem], TT4.out.keep (by repeat' (first | with_reducible exact KeepX.refl _ _ _ _ | with_reducible refine KeepX.setB ?_ ?_ _ | with_reducible refine KeepX.alloc ?_ ?_ _ | with_reducible refine KeepX.drew ?_ | omega | (simp; done) | (simp; omega)))⟩
          case rest =>
          obtain ⟨A14, c14, hF⟩ := hcut
          clear T0 T1 fx g0 g1 cx cy
          revert hF; generalize wc = w5; rintro ⟨B5, lt5_0, c5_0, c5_1, fz5_0, Ta⟩
          have z5 : w3.heap.size ≤ w5.heap.size := B5.size
          have TTa := Lib.hid Ta; have HB5 := Lib.hid B5; clear Ta
          have g0 := (bAt B5 (b := w.heap.size) (o := 0) (by omega)).trans (show w3.cell? ⟨w.heap.size, 0, none⟩ = some (.slice (some ⟨b1, o1, none⟩) ts.length c1) from G0.out)
          have g1 := (bAt B5 (b := w.heap.size) (o := 1) (by omega)).trans (show w3.cell? ⟨w.heap.size, 1, none⟩ = some (.slice (some ⟨b2, o2, none⟩) ls.length c2) from G1.out)
          have cy := CY.out w5 (HB.out.trans (B5.mono (by omega)))
          clear B5
          go_wp2_with fail
          go_region_law (refine stepTwo rfl _ _ rfl (w1.heap.size) (w1.heap.size + 1 + 1) _ _ _ _ (y + b) _ rfl rfl ?_ (TTa.out.symm.keep (by repeat' (first | with_reducible exact KeepX.refl _ _ _ _ | with_reducible refine KeepX.setB ?_ ?_ _ | with_reducible refine KeepX.alloc ?_ ?_ _ | with_reducible refine KeepX.drew ?_ | omega | (simp; done) | (simp; omega)))) ?_ ?_ ?_ ?_; (focus (simp [*, go_sem]; done)); (focus (rw [shF_len (by omega)]; omega)); (focus (first | omega | (simp; omega))); (focus (first | omega | (simp; omega))); intro A15 c15 w6 T6 F6; obtain ⟨q6, s6, x6, y6⟩ := fkeep [w.heap.size, w.heap.size + 1, w1.heap.size + 1 + 1] (by first | (simp; done) | (simp; omega)) F6; have TT6 := Lib.hid T6; clear T6; have FF6 := Lib.hid F6; have z6 := F6.size; (try simp only [World.size_alloc, World.size_drew, size_set] at z6); have C6 : Below w1.heap.size w3 w6 := F6.below (by have hb_ := HB5.out; first | exact hb_ | (go_grown; done)) (by omega) (by first | omega | (simp; omega)); clear F6)
          all_goals go_wp2
          all_goals go_roundw
          all_goals first | exact ⟨k + 1, _, _, by omega, by go_num, (by first | exact C6 | (go_grown; done)), (by first | omega | (simp; done) | (simp; omega)), by simp [*, go_sem] <;> rfl, by simp [*, go_sem] <;> rfl, fun o => by simp [*, go_sem], (by rw [← shF_succ HX.out, ← shF_succ HY.out]; exact (TT6.out.keep (by repeat' (first | with_reducible exact KeepX.refl _ _ _ _ | with_reducible refine KeepX.setB ?_ ?_ _ | with_reducible refine KeepX.alloc ?_ ?_ _ | with_reducible refine KeepX.drew ?_ | omega | (simp; done) | (simp; omega)))).symm)⟩ | (simp [intOf]; omega)
        · obtain rfl : k = ts.length := by omega
          have f0 : ∀ o, wr.frozen? ⟨w.heap.size + 1, o, none⟩ = false := fun o => (bAtF Br (b := w.heap.size + 1) (o := o) (by omega)).trans (fz3_0 o)
          have r0 := (bAt Br (b := w.heap.size + 1) (o := 0) (by omega)).trans c3_2
          have r1 := (bAt Br (b := w.heap.size + 1) (o := 1) (by omega)).trans c3_3
          clear c3_0 c3_1 c3_2 c3_3 c3_4 c3_5 fz3_0 fz3_1
          have el : ts.length = ls.length := by omega
          have e1 : shF ts a ts.length = shA ts a := rfl
          have e2 : shF ls b ts.length = shA ls b := by rw [el]; rfl
          rw [e1] at T0
          rw [e2] at T1
          have TE := TT.out
          rw [e1, e2] at TE
          have TR := Lib.hid TE.res
          clear e1 e2 el TT TE Br
          have Bw := HB.out.trans (HBr.out.mono (show w.heap.size ≤ w1.heap.size by omega))
          by_cases hf : gauB (shA ts a) (shA ls b) = true
          · obtain ⟨e0, e1, e2⟩ := sh_ok hp HR.out hf
            have E0 := Lib.hid e0; have E1 := Lib.hid e1; have E2 := Lib.hid e2; clear e0 e1 e2
            go_wp2_with (go_at_call 49; refine (specIsGauge_any _ _ _ _ _ _ _ ⟨TR.out.1.at.below (B := wr.heap.size) (by first | exact Below.refl _ _ | (go_grown; done)) (Nat.le_refl _), TR.out.2.1.at.below (B := wr.heap.size) (by first | exact Below.refl _ _ | (go_grown; done)) (Nat.le_refl _)⟩).mono ?_; rintro e w8 ⟨rfl, hb8⟩; obtain ⟨B8, hz8, q8, s8, t8, x8, y8, z8⟩ := bkeep (w := wr) [w.heap.size, w.heap.size + 1, w1.heap.size + 1 + 1] (by first | (simp; done) | (simp; omega)) (by first | (go_grown; done) | exact bdrewN (by go_grown) _) hb8; (try simp at hz8); clear hb8)
            refine bodyPost_ret (by simp [results, Try.results45, go_sem, *] <;> rfl) rfl ?_
            have TR8 := TR.out.below B8 (Nat.le_refl _)
            refine ⟨⟨A4, c4, A5, c5, by rw [E0.out, E1.out, E2.out], ?_⟩, Bw.trans ((show Below w.heap.size wr w8 from B8.mono (by omega)).trans (by go_grown))⟩
            rw [E1.out, E2.out]
            refine ResP.mono (lo := w1.heap.size) (hi := wr.heap.size) ⟨TR8.1.kept ?_, TR8.2.1.kept ?_, TR8.2.2⟩ (by omega) (by simp only [size_set]; omega)
            all_goals exact ((Keep.refl _ _ _).setB (by omega) _).setB (by omega) _
          · have hf' : gauB (shA ts a) (shA ls b) = false := by simpa using hf
            have e0 := sh_lim hp HR.out hf'
            obtain ⟨e1, e2⟩ := sh_of e0 (by omega)
            have E0 := Lib.hid e0; have E1 := Lib.hid e1; have E2 := Lib.hid e2; clear e0 e1 e2 hf
            go_wp2_with (go_at_call 49; refine (specIsGauge_any _ _ _ _ _ _ _ ⟨TR.out.1.at.below (B := wr.heap.size) (by first | exact Below.refl _ _ | (go_grown; done)) (Nat.le_refl _), TR.out.2.1.at.below (B := wr.heap.size) (by first | exact Below.refl _ _ | (go_grown; done)) (Nat.le_refl _)⟩).mono ?_; rintro e w8 ⟨rfl, hb8⟩; obtain ⟨B8, hz8, q8, s8, t8, x8, y8, z8⟩ := bkeep (w := wr) [w.heap.size, w.heap.size + 1, w1.heap.size + 1 + 1] (by first | (simp; done) | (simp; omega)) (by first | (go_grown; done) | exact bdrewN (by go_grown) _) hb8; (try simp at hz8); clear hb8)
            refine bodyPost_ret (by simp [results, Try.results45, go_sem, *] <;> rfl) rfl ?_
            exact ⟨⟨none, 0, none, 0, by rw [E0.out, E1.out, E2.out]; rfl, by rw [E1.out, E2.out]; exact ResP.nil _ _ _ _ _⟩, Bw.trans ((show Below w.heap.size wr w8 from B8.mono (by omega)).trans (by go_grown))⟩
    · have hr' : (inB a (-1000000) 1000000 && inB b (-2000) 2000) = false := by simpa using hr
      have e0 := sh_range hp hr'
      obtain ⟨e1, e2⟩ := sh_of e0 (by omega)
      have H := Lib.hid h; have E0 := Lib.hid e0; have E1 := Lib.hid e1; have E2 := Lib.hid e2; clear h e0 e1 e2 hr
      by_cases hra : inB a (-1000000) 1000000 = true
      · have hrb : inB b (-2000) 2000 = false := by rw [hra] at hr'; simpa using hr'
        clear hr'
        go_enter Try.func45, Try.ntmps45
        go_wp2_with (first
          | (go_at_call 49; refine (specIsGauge_any _ _ _ _ _ _ _ ⟨(H.out.1.below (B := w.heap.size) (by first | exact Below.refl _ _ | (go_grown; done) | exact bdrewN (by go_grown) _) (Nat.le_refl _)), (H.out.2.below (B := w.heap.size) (by first | exact Below.refl _ _ | (go_grown; done) | exact bdrewN (by go_grown) _) (Nat.le_refl _))⟩).mono ?_; rintro e w1 ⟨rfl, hb1⟩; obtain ⟨B1, hz1, q1, s1, t1, x1, y1, z1⟩ := bkeep (w := w) [w.heap.size, w.heap.size + 1] (by first | (simp; done) | (simp; omega)) (by first | (go_grown; done) | exact bdrewN (by go_grown) _) hb1; (try simp at hz1); clear hb1)
          | (go_at_call 56; refine (l01In_any _ _ _ _).mono ?_; rintro e w' ⟨rfl, rfl⟩))
        refine bodyPost_ret (by simp [results, Try.results45, go_sem, *] <;> rfl) rfl ?_
        exact ⟨⟨none, 0, none, 0, by rw [E0.out, E1.out, E2.out]; rfl, by rw [E1.out, E2.out]; exact ResP.nil _ _ _ _ _⟩, (by first | with_reducible exact B1 | (go_grown; done) | with_reducible exact bdrewN B1 _ | (go_grown <;> first | with_reducible exact bdrewN B1 _ | with_reducible exact B1))⟩
      · have hra' : inB a (-1000000) 1000000 = false := by simpa using hra
        clear hr' hra
        go_enter Try.func45, Try.ntmps45
        go_wp2_with (first
          | (go_at_call 49; refine (specIsGauge_any _ _ _ _ _ _ _ ⟨(H.out.1.below (B := w.heap.size) (by first | exact Below.refl _ _ | (go_grown; done) | exact bdrewN (by go_grown) _) (Nat.le_refl _)), (H.out.2.below (B := w.heap.size) (by first | exact Below.refl _ _ | (go_grown; done) | exact bdrewN (by go_grown) _) (Nat.le_refl _))⟩).mono ?_; rintro e w1 ⟨rfl, hb1⟩; obtain ⟨B1, hz1, q1, s1, t1, x1, y1, z1⟩ := bkeep (w := w) [w.heap.size, w.heap.size + 1] (by first | (simp; done) | (simp; omega)) (by first | (go_grown; done) | exact bdrewN (by go_grown) _) hb1; (try simp at hz1); clear hb1)
          | (go_at_call 56; refine (l01In_any _ _ _ _).mono ?_; rintro e w' ⟨rfl, rfl⟩))
        refine bodyPost_ret (by simp [results, Try.results45, go_sem, *] <;> rfl) rfl ?_
        exact ⟨⟨none, 0, none, 0, by rw [E0.out, E1.out, E2.out]; rfl, by rw [E1.out, E2.out]; exact ResP.nil _ _ _ _ _⟩, (by first | with_reducible exact B1 | (go_grown; done) | with_reducible exact bdrewN B1 _ | (go_grown <;> first | with_reducible exact bdrewN B1 _ | with_reducible exact B1))⟩
  · have hp' : gauB ts ls = false := by simpa using hp
    have e0 := sh_bad (a := a) (b := b) hp'
    obtain ⟨e1, e2⟩ := sh_of e0 (by omega)
    have H := Lib.hid h; have E0 := Lib.hid e0; have E1 := Lib.hid e1; have E2 := Lib.hid e2; clear h e0 e1 e2 hp
    go_enter Try.func45, Try.ntmps45
    go_wp2_with (go_at_call 49; refine (specIsGauge_any _ _ _ _ _ _ _ ⟨(H.out.1.below (B := w.heap.size) (by first | exact Below.refl _ _ | (go_grown; done) | exact bdrewN (by go_grown) _) (Nat.le_refl _)), (H.out.2.below (B := w.heap.size) (by first | exact Below.refl _ _ | (go_grown; done) | exact bdrewN (by go_grown) _) (Nat.le_refl _))⟩).mono ?_; rintro e w1 ⟨rfl, hb1⟩; obtain ⟨B1, hz1, q1, s1, t1, x1, y1, z1⟩ := bkeep (w := w) [w.heap.size, w.heap.size + 1] (by first | (simp; done) | (simp; omega)) (by first | (go_grown; done) | exact bdrewN (by go_grown) _) hb1; (try simp at hz1); clear hb1)
    refine bodyPost_ret (by simp [results, Try.results45, go_sem, *] <;> rfl) rfl ?_
    exact ⟨⟨none, 0, none, 0, by rw [E0.out, E1.out, E2.out]; rfl, by rw [E1.out, E2.out]; exact ResP.nil _ _ _ _ _⟩, (by first | with_reducible exact B1 | (go_grown; done) | with_reducible exact bdrewN B1 _ | (go_grown <;> first | with_reducible exact bdrewN B1 _ | with_reducible exact B1))⟩
end Go.Proofs.Ytjabldjffpjkeaa
