/- ReadGauge, by the reference. -/
import Derived.Test.YtebdokpokbcgjaaDoorRgN
import Derived.IntWalk
import Derived.Deep.DeepCutAuto
namespace Go.Proofs.YtebdokpokbcgjaaDoor
set_option linter.unusedSimpArgs false
set_option linter.unusedVariables false
open Go.RowKit

theorem genR {P S : World → Prop} {w0 : World} (h0 : S w0) (h : ∀ w, S w → P w) : P w0 := h w0 h0

set_option maxRecDepth 100000 in
set_option maxHeartbeats 8000000 in
theorem specReadGauge_any (l : List UInt8) (w : World) (hl : l.length ≤ 1048576) :
    Calls Tryd.prog 19 #[strL l] w fun e w' => (∃ B1 d1 B2 d2, e = .returned (.tuple #[profV B1 (rgT l).length d1 B2 (rgL l).length d2, .bool (rgK l)]) ∧ ResP w' w.heap.size w'.heap.size B1 d1 B2 d2 (rgT l) (rgL l)) ∧ Below w.heap.size w w' := by
  have HNone := Lib.hid (show rdL (wP 64) (spl 32 l) = none → rgT l = [] ∧ rgL l = [] ∧ rgK l = false from fun q => rg_no (rg_none q))
  have HBad := Lib.hid (show ∀ ps, rdL (wP 64) (spl 32 l) = some ps → ¬ gauB (ps.map Prod.fst) (ps.map Prod.snd) = true → rgT l = [] ∧ rgL l = [] ∧ rgK l = false from fun ps q q' => rg_no (rg_bad q q'))
  have HOk := Lib.hid (show ∀ ps, rdL (wP 64) (spl 32 l) = some ps → gauB (ps.map Prod.fst) (ps.map Prod.snd) = true → rgT l = ps.map Prod.fst ∧ rgL l = ps.map Prod.snd ∧ rgK l = true from fun ps q q' => rg_yes (rg_ok q q'))
  have hL : (spl 32 l).length ≤ 1048577 := by have := splB_size 32 l []; unfold spl; omega
  have HW := Lib.hid (show ∀ z ∈ spl 32 l, z.length ≤ 1048576 from fun z hz => by have := spl_word hz; omega)
  have SP := Lib.hid (fun W => l01Split_any l 32 W (by omega))
  obtain ⟨L, hLe⟩ : ∃ L, L = spl 32 l := ⟨_, rfl⟩
  rw [← hLe] at SP hL HW HNone HBad HOk
  clear hLe
  go_enter Tryd.func19, Tryd.ntmps19
  go_wp2_with (go_at_call 61; refine (SP.out _).mono ?_; rintro e_ w1 ⟨⟨g, c, rfl, hs, hg⟩, hb1⟩; (try simp only [World.size_alloc, World.size_drew, size_set] at hg); have hz0 := hb1.size; (try simp only [World.size_alloc, World.size_drew, size_set] at hz0); obtain ⟨B1, hz1, q1, s1, t1, x1, y1, z1⟩ := bkeep (w := w) [w.heap.size] (by first | (simp; done) | (simp; omega)) (by first | (go_grown; done) | exact bdrewN (by go_grown) _) hb1; (try simp at hz1); clear hb1)
  have hgl : g < w1.heap.size := hs.lt_
  have HS := Lib.hid hs; clear hs
  have hlt1 : w.heap.size < w1.heap.size := by omega
  obtain ⟨ne_a1, ne_b1, ne_a2, ne_b2, ne_a3, ne_b3⟩ : (w.heap.size = w1.heap.size) = False ∧ (w1.heap.size = w.heap.size) = False ∧ (w.heap.size = w1.heap.size + 1) = False ∧ (w1.heap.size + 1 = w.heap.size) = False ∧ (w.heap.size = w1.heap.size + 1 + 1) = False ∧ (w1.heap.size + 1 + 1 = w.heap.size) = False := by
    refine ⟨?_, ?_, ?_, ?_, ?_, ?_⟩ <;> exact eq_false (by omega)
  have la1_0 : w.heap.size < w1.heap.size := by omega
  have lb1_0 : w.heap.size < w1.heap.size + 1 := by omega
  have lc1_0 : w.heap.size < w1.heap.size + 1 + 1 := by omega
  refine genR (S := fun w' => Below (w.heap.size) w w' ∧ w.heap.size < w'.heap.size ∧ w1.heap.size + 1 + 1 < w'.heap.size ∧ w'.cell? ⟨w.heap.size, 0, none⟩ = some (.slice none 0 0) ∧ w'.cell? ⟨w.heap.size, 1, none⟩ = some (.slice none 0 0) ∧ w'.cell? ⟨w1.heap.size + 1 + 1, 0, none⟩ = some (.slice (some ⟨w1.heap.size, 0, none⟩) 0 0) ∧ w'.cell? ⟨w1.heap.size + 1 + 1, 1, none⟩ = some (.slice (some ⟨w1.heap.size + 1, 0, none⟩) 0 0) ∧ (∀ o, w'.frozen? ⟨w.heap.size, o, none⟩ = false) ∧ (∀ o, w'.frozen? ⟨w1.heap.size + 1 + 1, o, none⟩ = false) ∧ Two w' (w1.heap.size) (w1.heap.size + 1 + 1) (.slice (some ⟨w1.heap.size, 0, none⟩) 0 0) (.slice (some ⟨w1.heap.size + 1, 0, none⟩) 0 0) [] [] ∧ StrsAt w' (some ⟨g, 0, none⟩) c L ∧ Below w1.heap.size w1 w') ⟨(by first | with_reducible exact B1 | (go_grown; done) | with_reducible exact bdrewN B1 _ | (go_grown <;> first | with_reducible exact bdrewN B1 _ | with_reducible exact B1)), by first | omega | (simp; done) | (simp; omega), by first | omega | (simp; done) | (simp; omega), by simp [*, go_sem], by simp [*, go_sem], by simp [*, go_sem], by simp [*, go_sem], fun o => by simp [*, go_sem], fun o => by simp [*, go_sem], (Two.zero w1 _).keep (by repeat' (first | with_reducible exact KeepX.refl _ _ _ _ | with_reducible refine KeepX.setB ?_ ?_ _ | with_reducible refine KeepX.alloc ?_ ?_ _ | with_reducible refine KeepX.drew ?_ | omega | (simp; done) | (simp; omega))), HS.out.below (B := w1.heap.size) (by first | exact Below.refl _ _ | (go_grown; done) | exact bdrewN (Below.refl _ _) _ | exact bdrewN (by go_grown) _) (Nat.le_refl _), (by first | exact Below.refl _ _ | (go_grown; done) | exact bdrewN (Below.refl _ _) _ | exact bdrewN (by go_grown) _)⟩ ?_
  clear q1 s1 t1 x1 y1
  rintro w3 ⟨B3, lt3_0, lt3_1, c3_0, c3_1, c3_2, c3_3, fz3_0, fz3_1, TZ, XS, BB⟩
  have z3 : w.heap.size ≤ w3.heap.size := B3.size
  have HB := Lib.hid B3; have HTZ := Lib.hid TZ; have HX := Lib.hid XS; clear B3 TZ XS HS
  go_loopw [6] (fun i wr => ∃ (k : Nat) (v1 v2 : Value) (M1 M2 : List Int) (ps : List (Int × Int)), k ≤ L.length ∧ i = .int .i64 k ∧ Below w1.heap.size w3 wr ∧ w1.heap.size + 1 + 1 < wr.heap.size ∧ wr.cell? ⟨w1.heap.size + 1 + 1, 0, none⟩ = some v1 ∧ wr.cell? ⟨w1.heap.size + 1 + 1, 1, none⟩ = some v2 ∧ (∀ o, wr.frozen? ⟨w1.heap.size + 1 + 1, o, none⟩ = false) ∧ Two wr (w1.heap.size) (w1.heap.size + 1 + 1) v1 v2 M1 M2 ∧ M1 = ps.map Prod.fst ∧ M2 = ps.map Prod.snd ∧ M1.length = k ∧ M2.length = k ∧ rdL (wP 64) (L.take k) = some ps) (fun i _ => L.length - (intOf i).toNat)
  case atStart => exact ⟨0, _, _, [], [], [], by omega, rfl, Below.refl _ _, lt3_1, c3_2, c3_3, fz3_1, HTZ.out, rfl, rfl, rfl, rfl, rfl⟩
  case round =>
    obtain ⟨k, v1, v2, M1, M2, ps, hk, rfl, Br, lx, T0, T1, fx, T, hM1, hM2, hn1, hn2, hrd⟩ := hrel
    obtain ⟨A4, c4, e4, hc4, -⟩ := T.o1; obtain ⟨A5, c5, e5, hc5, -⟩ := T.o2
    subst e4 e5
    have sr : w3.heap.size ≤ wr.heap.size := Br.size
    have NB := Lib.hid (show ∀ b, wr.heap.size ≤ b → (Value.slice A4 M1.length c4).ownBlock ≠ some b from fun b hb e => by have := (T.o1.lt b e).2; omega)
    have TT := Lib.hid T; have HBr := Lib.hid Br; have HM1 := Lib.hid hM1; have HM2 := Lib.hid hM2; have HRD := Lib.hid hrd; have HN1 := Lib.hid hn1; have HN2 := Lib.hid hn2; clear T hM1 hM2 hrd hn1 hn2
    have BW := Lib.hid (HB.out.trans (HBr.out.mono (show w.heap.size ≤ w1.heap.size by omega)))
    have HXr := Lib.hid (HX.out.under HBr.out hgl)
    have r0 := (bAt Br (b := w.heap.size) (o := 0) (by omega)).trans c3_0
    have r1 := (bAt Br (b := w.heap.size) (o := 1) (by omega)).trans c3_1
    have f0 : ∀ o, wr.frozen? ⟨w.heap.size, o, none⟩ = false := fun o => (bAtF Br (b := w.heap.size) (o := o) (by omega)).trans (fz3_0 o)
    have lr : w.heap.size < wr.heap.size := by omega
    clear Br c3_0 c3_1 c3_2 c3_3 fz3_0 fz3_1
    by_cases hlt : k < L.length
    · obtain ⟨z, hz⟩ : ∃ z, L[k]? = some z := ⟨_, List.getElem?_eq_getElem hlt⟩
      have cz : wr.cell? ⟨g, k, none⟩ = some (strL z) := by have q := HXr.out.cell_ hz; rwa [Nat.zero_add] at q
      have hg2 := HXr.out.lt_
      have hzl := HW.out z (List.mem_of_getElem? hz)
      have HZ := Lib.hid hz; clear hz
      have kk0 : (0 : Int) ≤ k := by omega
      have kk1 : (k : Int) < L.length := by omega
      have SZ := Lib.hid (fun W => l01Split_any z 64 W (by omega))
      have CN := Lib.hid (fun W A c (h : StrsAt W A c (spl 64 z)) => l01NumbersO_any A c (spl 64 z) W h (by have := splB_size 64 z []; unfold spl; omega) (fun y hy => by have := spl_word hy; omega))
      have HWF := Lib.hid (show wP 64 z = (rdL rdS (spl 64 z)).bind pairI from rfl)
      obtain ⟨Z, hZ⟩ : ∃ Z, Z = spl 64 z := ⟨_, rfl⟩
      rw [← hZ] at SZ CN HWF
      clear hZ
      cases hr : rdL rdS Z with
      | none =>
        obtain ⟨E1, E2, E3⟩ := HNone.out (rdL_none (by rw [HWF.out, hr]; rfl) L (List.mem_of_getElem? HZ.out))
        have F1 := Lib.hid E1; have F2 := Lib.hid E2; have F3 := Lib.hid E3; clear E1 E2 E3
        rw [hr] at CN
        clear hr
        go_wp2_with (first
            | (go_at_call 61; refine (SZ.out _).mono ?_; rintro e_ w2 ⟨⟨g2, c2, rfl, hs2, -⟩, hb2⟩; have HS2 := Lib.hid hs2; have hz2 := hb2.size; have HB2 := Lib.hid hb2; clear hs2 hb2)
            | (go_at_call 62; refine (CN.out _ _ _ HS2.out).mono ?_; rintro e_ w4 ⟨hnr, hb3⟩; obtain rfl := hnr.none_; have HB4 := Lib.hid (HB2.out.trans (hb3.mono hz2)); clear hb3; have hz4 := HB4.out.size; have ly4 : w.heap.size < w4.heap.size := (by omega); have lz4 : w1.heap.size + 1 + 1 < w4.heap.size := (by omega); have k0 := (bAt HB4.out (b := w1.heap.size + 1 + 1) (o := 0) (by omega)).trans T0; have k1 := (bAt HB4.out (b := w1.heap.size + 1 + 1) (o := 1) (by omega)).trans T1; have k2 := (bAt HB4.out (b := w.heap.size) (o := 0) (by omega)).trans r0; have k3 := (bAt HB4.out (b := w.heap.size) (o := 1) (by omega)).trans r1; have k4 : ∀ o, w4.frozen? ⟨w1.heap.size + 1 + 1, o, none⟩ = false := fun o => (bAtF HB4.out (b := w1.heap.size + 1 + 1) (o := o) (by omega)).trans (fx o); have k5 : ∀ o, w4.frozen? ⟨w.heap.size, o, none⟩ = false := fun o => (bAtF HB4.out (b := w.heap.size) (o := o) (by omega)).trans (f0 o)))
        all_goals refine bodyPost_ret (by simp [results, Tryd.results19, go_sem, *] <;> rfl) rfl ?_
        all_goals exact ⟨⟨none, 0, none, 0, by rw [F1.out, F2.out, F3.out]; rfl, by rw [F1.out, F2.out]; exact ResP.nil _ _ _ _ _⟩, BW.out.trans (Below.trans (HB4.out.mono (by omega)) (by go_grown))⟩
      | some M =>
        by_cases h2 : M.length = 2
        · obtain ⟨s, hs⟩ := pair_len h2
          have HN := Lib.hid (rdL_next HRD.out HZ.out (show wP 64 z = some s by rw [HWF.out, hr]; exact hs))
          obtain rfl := pair_some hs
          rw [hr] at CN
          clear hr hs h2
          go_wp2_with (first
            | (go_at_call 61; refine (SZ.out _).mono ?_; rintro e_ w2 ⟨⟨g2, c2, rfl, hs2, -⟩, hb2⟩; have HS2 := Lib.hid hs2; have hz2 := hb2.size; have HB2 := Lib.hid hb2; clear hs2 hb2)
            | (go_at_call 62; refine (CN.out _ _ _ HS2.out).mono ?_; rintro e_ w4 ⟨hnr, hb3⟩; obtain ⟨A3, c3, rfl, hi3⟩ := hnr.some_; obtain ⟨b3, rfl, hb3l, hb3u, hc3, hc3', d0, d1⟩ := OwnI.two_ hi3; have hc3q : 2 ≤ c3 := hc3'; clear hi3; have HB4 := Lib.hid (HB2.out.trans (hb3.mono hz2)); clear hb3; have hz4 := HB4.out.size; have ly4 : w.heap.size < w4.heap.size := (by omega); have lz4 : w1.heap.size + 1 + 1 < w4.heap.size := (by omega); have k0 := (bAt HB4.out (b := w1.heap.size + 1 + 1) (o := 0) (by omega)).trans T0; have k1 := (bAt HB4.out (b := w1.heap.size + 1 + 1) (o := 1) (by omega)).trans T1; have k2 := (bAt HB4.out (b := w.heap.size) (o := 0) (by omega)).trans r0; have k3 := (bAt HB4.out (b := w.heap.size) (o := 1) (by omega)).trans r1; have k4 : ∀ o, w4.frozen? ⟨w1.heap.size + 1 + 1, o, none⟩ = false := fun o => (bAtF HB4.out (b := w1.heap.size + 1 + 1) (o := o) (by omega)).trans (fx o); have k5 : ∀ o, w4.frozen? ⟨w.heap.size, o, none⟩ = false := fun o => (bAtF HB4.out (b := w.heap.size) (o := o) (by omega)).trans (f0 o); have T4 := Lib.hid (TT.out.keep (KeepX.of_below HB4.out)); have C4 := Lib.hid (show Below w1.heap.size w3 w4 from HBr.out.trans (HB4.out.mono (by omega)))))
          have hb3r : wr.heap.size ≤ b3 := by omega
          have NB3 := Lib.hid (NB.out b3 hb3r)
          go_cut [] (fun wx => ∃ A14 c14, Below w1.heap.size w3 wx ∧ w1.heap.size + 1 + 1 < wx.heap.size ∧ w.heap.size < wx.heap.size ∧ b3 < wx.heap.size ∧ wx.cell? ⟨w1.heap.size + 1 + 1, 0, none⟩ = some (.slice A14 (M1.length + 1) c14) ∧ wx.cell? ⟨w1.heap.size + 1 + 1, 1, none⟩ = some (.slice A5 M2.length c5) ∧ (∀ o, wx.frozen? ⟨w1.heap.size + 1 + 1, o, none⟩ = false) ∧ wx.cell? ⟨b3, 1, none⟩ = some (.int .i64 s.2) ∧ Two wx (w1.heap.size) (w1.heap.size + 1 + 1) (.slice A14 (M1.length + 1) c14) (.slice A5 M2.length c5) (M1 ++ [s.1]) M2)
          case first =>
            go_region_law (refine stepTwoF rfl _ _ rfl (w1.heap.size) (w1.heap.size + 1 + 1) _ _ _ _ s.1 _ rfl rfl ?_ (T4.out.keep (by repeat' (first | with_reducible exact KeepX.refl _ _ _ _ | with_reducible refine KeepX.setB ?_ ?_ _ | with_reducible refine KeepX.alloc ?_ ?_ _ | with_reducible refine KeepX.drew ?_ | omega | (simp; done) | (simp; omega)))) ?_ ?_ ?_ ?_; (focus (simp [*, go_sem]; done)); (focus (have q_ := HN1.out; omega)); (focus first | omega | (simp; done) | (simp; omega)); (focus first | omega | (simp; done) | (simp; omega)); intro A14 c14 w5 T5 F5 G5; obtain ⟨q5, s5, x5, y5⟩ := fkeep [w.heap.size, w1.heap.size + 1 + 1] (by first | (simp; done) | (simp; omega)) F5; have d15 := grown_cell (b := b3) (o := 1) (v := .int .i64 s.2) G5 (by first | omega | (simp; done) | (simp; omega)) NB3.out (by simp [*, go_sem]); have TT5 := Lib.hid T5; have z5 := F5.size; (try simp only [World.size_alloc, World.size_drew, size_set] at z5); have ly5 : w.heap.size < w5.heap.size := (by omega); have lz5 : w1.heap.size + 1 + 1 < w5.heap.size := (by omega); have lb5 : b3 < w5.heap.size := (by omega); have C5 := Lib.hid (show Below w1.heap.size w3 w5 from F5.below (by have hb_ := C4.out; first | with_reducible exact hb_ | (go_grown; done) | exact bdrewN (by go_grown) _) (by omega) (by first | omega | (simp; done) | (simp; omega))); clear T5 F5 G5)
            all_goals (try go_wp2_with fail)
            all_goals go_meet
            all_goals exact ⟨A14, c14, (by have hb_ := C5.out; first | with_reducible exact hb_ | (go_grown; done) | exact bdrewN (by go_grown) _), (by first | omega | (simp; done) | (simp; omega)), (by first | omega | (simp; done) | (simp; omega)), (by first | omega | (simp; done) | (simp; omega)), by simp [*, go_sem], by simp [*, go_sem], fun o => by simp [*, go_sem], by simp [*, go_sem], TT5.out.keep (by repeat' (first | with_reducible exact KeepX.refl _ _ _ _ | with_reducible refine KeepX.setB ?_ ?_ _ | with_reducible refine KeepX.alloc ?_ ?_ _ | with_reducible refine KeepX.drew ?_ | omega | (simp; done) | (simp; omega)))⟩
          case rest =>
          obtain ⟨A14, c14, hF⟩ := hcut
          clear T0 T1 fx k0 k1 k4 d0 d1 cz
          revert hF; generalize wc = w6; rintro ⟨B6, lx6, ly6, lb6, e0, e1, e4, e5, T6⟩
          have TT6 := Lib.hid T6; have HB6 := Lib.hid B6; clear T6
          have z6 : w3.heap.size ≤ w6.heap.size := B6.size
          clear B6
          go_wp2_with fail
          go_region_law (refine stepTwoF rfl _ _ rfl (w1.heap.size) (w1.heap.size + 1 + 1) _ _ _ _ s.2 _ rfl rfl ?_ (TT6.out.symm.keep (by repeat' (first | with_reducible exact KeepX.refl _ _ _ _ | with_reducible refine KeepX.setB ?_ ?_ _ | with_reducible refine KeepX.alloc ?_ ?_ _ | with_reducible refine KeepX.drew ?_ | omega | (simp; done) | (simp; omega)))) ?_ ?_ ?_ ?_; (focus (simp [*, go_sem]; done)); (focus (have q_ := HN2.out; omega)); (focus first | omega | (simp; done) | (simp; omega)); (focus first | omega | (simp; done) | (simp; omega)); intro A15 c15 w7 T7 F7 G7; clear G7; obtain ⟨q7, s7, x7, y7⟩ := fkeep [w.heap.size, w1.heap.size + 1 + 1] (by first | (simp; done) | (simp; omega)) F7; have TT7 := Lib.hid T7; have z7 := F7.size; (try simp only [World.size_alloc, World.size_drew, size_set] at z7); have ly7 : w.heap.size < w7.heap.size := (by omega); have lz7 : w1.heap.size + 1 + 1 < w7.heap.size := (by omega); have C7 := Lib.hid (show Below w1.heap.size w3 w7 from F7.below (by have hb_ := HB6.out; first | with_reducible exact hb_ | (go_grown; done) | exact bdrewN (by go_grown) _) (by omega) (by first | omega | (simp; done) | (simp; omega))); clear T7 F7)
          all_goals go_wp2
          all_goals go_roundw
          all_goals first | exact ⟨k + 1, _, _, M1 ++ [s.1], M2 ++ [s.2], ps ++ [s], by omega, by go_num, (by have hb_ := C7.out; first | with_reducible exact hb_ | (go_grown; done) | exact bdrewN (by go_grown) _), (by first | omega | (simp; done) | (simp; omega)), by simp [*, go_sem] <;> rfl, by simp [*, go_sem] <;> rfl, fun o => by simp [*, go_sem], (TT7.out.keep (by repeat' (first | with_reducible exact KeepX.refl _ _ _ _ | with_reducible refine KeepX.setB ?_ ?_ _ | with_reducible refine KeepX.alloc ?_ ?_ _ | with_reducible refine KeepX.drew ?_ | omega | (simp; done) | (simp; omega)))).symm, by rw [HM1.out, List.map_append]; rfl, by rw [HM2.out, List.map_append]; rfl, by rw [List.length_append, HN1.out]; rfl, by rw [List.length_append, HN2.out]; rfl, HN.out⟩ | (simp [intOf]; omega)
        · obtain ⟨E1, E2, E3⟩ := HNone.out (rdL_none (by rw [HWF.out, hr]; exact pair_none h2) L (List.mem_of_getElem? HZ.out))
          have F1 := Lib.hid E1; have F2 := Lib.hid E2; have F3 := Lib.hid E3; clear E1 E2 E3
          have h5 : ((M.length : Int) == 2) = false := beq_eq_false_iff_ne.2 (by omega)
          rw [hr] at CN
          clear hr
          go_wp2_with (first
            | (go_at_call 61; refine (SZ.out _).mono ?_; rintro e_ w2 ⟨⟨g2, c2, rfl, hs2, -⟩, hb2⟩; have HS2 := Lib.hid hs2; have hz2 := hb2.size; have HB2 := Lib.hid hb2; clear hs2 hb2)
            | (go_at_call 62; refine (CN.out _ _ _ HS2.out).mono ?_; rintro e_ w4 ⟨hnr, hb3⟩; obtain ⟨A3, c3, rfl, hi3⟩ := hnr.some_; have HB4 := Lib.hid (HB2.out.trans (hb3.mono hz2)); clear hb3; have hz4 := HB4.out.size; have ly4 : w.heap.size < w4.heap.size := (by omega); have lz4 : w1.heap.size + 1 + 1 < w4.heap.size := (by omega); have k0 := (bAt HB4.out (b := w1.heap.size + 1 + 1) (o := 0) (by omega)).trans T0; have k1 := (bAt HB4.out (b := w1.heap.size + 1 + 1) (o := 1) (by omega)).trans T1; have k2 := (bAt HB4.out (b := w.heap.size) (o := 0) (by omega)).trans r0; have k3 := (bAt HB4.out (b := w.heap.size) (o := 1) (by omega)).trans r1; have k4 : ∀ o, w4.frozen? ⟨w1.heap.size + 1 + 1, o, none⟩ = false := fun o => (bAtF HB4.out (b := w1.heap.size + 1 + 1) (o := o) (by omega)).trans (fx o); have k5 : ∀ o, w4.frozen? ⟨w.heap.size, o, none⟩ = false := fun o => (bAtF HB4.out (b := w.heap.size) (o := o) (by omega)).trans (f0 o)))
          all_goals refine bodyPost_ret (by simp [results, Tryd.results19, go_sem, *] <;> rfl) rfl ?_
          all_goals exact ⟨⟨none, 0, none, 0, by rw [F1.out, F2.out, F3.out]; rfl, by rw [F1.out, F2.out]; exact ResP.nil _ _ _ _ _⟩, BW.out.trans (Below.trans (HB4.out.mono (by omega)) (by go_grown))⟩
    · obtain rfl : k = L.length := by omega
      have e := HRD.out
      rw [List.take_length] at e
      have TR := Lib.hid TT.out.res
      by_cases hf : gauB M1 M2 = true
      · obtain ⟨E1, E2, E3⟩ := HOk.out ps e (by rw [← HM1.out, ← HM2.out]; exact hf)
        have F1 := Lib.hid (E1.trans HM1.out.symm); have F2 := Lib.hid (E2.trans HM2.out.symm); have F3 := Lib.hid E3; clear E1 E2 E3
        go_wp2_with (go_at_call 48; refine (specIsGauge_any _ _ _ _ _ _ _ ⟨TR.out.1.at.below (B := wr.heap.size) (by first | exact Below.refl _ _ | (go_grown; done) | exact bdrewN (Below.refl _ _) _) (Nat.le_refl _), TR.out.2.1.at.below (B := wr.heap.size) (by first | exact Below.refl _ _ | (go_grown; done) | exact bdrewN (Below.refl _ _) _) (Nat.le_refl _)⟩).mono ?_; rintro e w8 ⟨rfl, hb8⟩; obtain ⟨B8, hz8, q8, s8, t8, x8, y8, z8⟩ := bkeep (w := wr) [w.heap.size, w1.heap.size + 1 + 1] (by first | (simp; done) | (simp; omega)) (by first | (go_grown; done) | exact bdrewN (by go_grown) _) hb8; (try simp at hz8); clear hb8)
        refine bodyPost_ret (by simp [results, Tryd.results19, go_sem, *] <;> rfl) rfl ?_
        have TR8 := TR.out.below B8 (Nat.le_refl _)
        refine ⟨⟨A4, c4, A5, c5, by rw [F1.out, F2.out, F3.out], ?_⟩, BW.out.trans ((show Below w.heap.size wr w8 from B8.mono (by omega)).trans (by go_grown))⟩
        rw [F1.out, F2.out]
        refine ResP.mono (lo := w1.heap.size) (hi := wr.heap.size) ⟨TR8.1.kept ?_, TR8.2.1.kept ?_, TR8.2.2⟩ (by omega) (by simp only [size_set]; omega)
        all_goals exact ((Keep.refl _ _ _).setB (by omega) _).setB (by omega) _
      · obtain ⟨E1, E2, E3⟩ := HBad.out ps e (by rw [← HM1.out, ← HM2.out]; exact hf)
        have F1 := Lib.hid E1; have F2 := Lib.hid E2; have F3 := Lib.hid E3; clear E1 E2 E3
        have hf' : gauB M1 M2 = false := by simpa using hf
        clear hf
        go_wp2_with (go_at_call 48; refine (specIsGauge_any _ _ _ _ _ _ _ ⟨TR.out.1.at.below (B := wr.heap.size) (by first | exact Below.refl _ _ | (go_grown; done) | exact bdrewN (Below.refl _ _) _) (Nat.le_refl _), TR.out.2.1.at.below (B := wr.heap.size) (by first | exact Below.refl _ _ | (go_grown; done) | exact bdrewN (Below.refl _ _) _) (Nat.le_refl _)⟩).mono ?_; rintro e w8 ⟨rfl, hb8⟩; obtain ⟨B8, hz8, q8, s8, t8, x8, y8, z8⟩ := bkeep (w := wr) [w.heap.size, w1.heap.size + 1 + 1] (by first | (simp; done) | (simp; omega)) (by first | (go_grown; done) | exact bdrewN (by go_grown) _) hb8; (try simp at hz8); clear hb8)
        refine bodyPost_ret (by simp [results, Tryd.results19, go_sem, *] <;> rfl) rfl ?_
        exact ⟨⟨none, 0, none, 0, by rw [F1.out, F2.out, F3.out]; rfl, by rw [F1.out, F2.out]; exact ResP.nil _ _ _ _ _⟩, BW.out.trans ((show Below w.heap.size wr w8 from B8.mono (by omega)).trans (by go_grown))⟩
end Go.Proofs.YtebdokpokbcgjaaDoor
