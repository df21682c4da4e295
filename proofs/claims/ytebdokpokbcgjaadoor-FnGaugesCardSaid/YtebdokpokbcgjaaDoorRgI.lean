/- ReadGauge, by the program. -/
import Derived.Test.YtebdokpokbcgjaaDoorRgP
import Derived.IntWalk
import Derived.Deep.DeepCutAuto
namespace Go.Proofs.YtebdokpokbcgjaaDoor
set_option linter.unusedSimpArgs false
set_option linter.unusedVariables false
open Go.RowKit

set_option maxRecDepth 100000 in
set_option maxHeartbeats 8000000 in
theorem implReadGauge_any (l : List UInt8) (w : World) (hl : l.length ≤ 1048576) (hr : RdW w) :
    Calls Tryd.prog 20 #[strL l] w fun e w' => (∃ B1 d1 B2 d2, e = .returned (.tuple #[profV B1 (rgT l).length d1 B2 (rgL l).length d2, .bool (rgK l)]) ∧ ResP w' w.heap.size w'.heap.size B1 d1 B2 d2 (rgT l) (rgL l)) ∧ Below w.heap.size w w' := by
  have HNone := Lib.hid (show rdL (wQ 64) (spl 32 l) = none → rgT l = [] ∧ rgL l = [] ∧ rgK l = false from fun q => rg_no ((rg_eq l).symm.trans <| rg_none q))
  have HBad := Lib.hid (show ∀ ps, rdL (wQ 64) (spl 32 l) = some ps → ¬ gauB (ps.map Prod.fst) (ps.map Prod.snd) = true → rgT l = [] ∧ rgL l = [] ∧ rgK l = false from fun ps q q' => rg_no ((rg_eq l).symm.trans <| rg_bad q q'))
  have HOk := Lib.hid (show ∀ ps, rdL (wQ 64) (spl 32 l) = some ps → gauB (ps.map Prod.fst) (ps.map Prod.snd) = true → rgT l = ps.map Prod.fst ∧ rgL l = ps.map Prod.snd ∧ rgK l = true from fun ps q q' => rg_yes ((rg_eq l).symm.trans <| rg_ok q q'))
  have hL : (spl 32 l).length ≤ 1048577 := by have := splB_size 32 l []; unfold spl; omega
  have HW := Lib.hid (show ∀ z ∈ spl 32 l, z.length ≤ 1048576 from fun z hz => by have := spl_word hz; omega)
  have HR := Lib.hid hr; clear hr
  have SP := Lib.hid (fun W (h : Below w.heap.size w W) => splitG_any l 32 W (by omega) (HR.out.below h (Nat.le_refl _)))
  obtain ⟨L, hLe⟩ : ∃ L, L = spl 32 l := ⟨_, rfl⟩
  rw [← hLe] at SP hL HW HNone HBad HOk
  clear hLe
  go_enter Tryd.func20, Tryd.ntmps20
  go_wp2_with (go_at_call 63; refine (SP.out _ (by first | exact Below.refl _ _ | (go_grown; done) | exact bdrewN (Below.refl _ _) _)).mono ?_; rintro e_ w1 ⟨⟨g, c, rfl, hs, hg⟩, hb1⟩; (try simp only [World.size_alloc, World.size_drew, size_set] at hg); have hz0 := hb1.size; (try simp only [World.size_alloc, World.size_drew, size_set] at hz0); obtain ⟨B1, hz1, q1, s1, t1, x1, y1, z1⟩ := bkeep (w := w) [w.heap.size, w.heap.size + 1] (by first | (simp; done) | (simp; omega)) (by first | (go_grown; done) | exact bdrewN (by go_grown) _) hb1; (try simp at hz1); clear hb1)
  have HS := Lib.hid hs; clear hs
  have r0 : w1.cell? ⟨w.heap.size, 0, none⟩ = some (.slice none 0 0) := by simp [*, go_sem]
  have r1 : w1.cell? ⟨w.heap.size, 1, none⟩ = some (.slice none 0 0) := by simp [*, go_sem]
  have c0 : w1.cell? ⟨w.heap.size + 1, 0, none⟩ = some (.slice none 0 0) := by simp [*, go_sem]
  have c1 : w1.cell? ⟨w.heap.size + 1, 1, none⟩ = some (.slice none 0 0) := by simp [*, go_sem]
  have f0 : ∀ o, w1.frozen? ⟨w.heap.size, o, none⟩ = false := fun o => by simp [*, go_sem]
  have f1 : ∀ o, w1.frozen? ⟨w.heap.size + 1, o, none⟩ = false := fun o => by simp [*, go_sem]
  clear q1 s1 t1 x1 y1 z1
  have HB1 := Lib.hid B1; clear B1
  have R0 := Lib.hid r0; have R1 := Lib.hid r1; have C0 := Lib.hid c0; have C1 := Lib.hid c1; have FR := Lib.hid f0; have FB := Lib.hid f1; clear r0 r1 c0 c1 f0 f1
  go_loopw [17] (fun i wr => ∃ (k : Nat) (v1 v2 : Value) (M1 M2 : List Int) (ps : List (Int × Int)), k ≤ L.length ∧ i = .int .i64 k ∧ ChgB (w.heap.size + 1) (w.heap.size + 2) w1 wr ∧ wr.cell? ⟨w.heap.size + 1, 0, none⟩ = some v1 ∧ wr.cell? ⟨w.heap.size + 1, 1, none⟩ = some v2 ∧ (∀ o, wr.frozen? ⟨w.heap.size + 1, o, none⟩ = false) ∧ Two wr w1.heap.size (w.heap.size + 1) v1 v2 M1 M2 ∧ M1 = ps.map Prod.fst ∧ M2 = ps.map Prod.snd ∧ M1.length = k ∧ M2.length = k ∧ rdL (wQ 64) (L.take k) = some ps) (fun i _ => L.length - (intOf i).toNat)
  case atStart => exact ⟨0, _, _, [], [], [], by omega, rfl, ChgB.refl_ _ _ _, C0.out, C1.out, FB.out, Two.none_ _ _ _, rfl, rfl, rfl, rfl, rfl⟩
  case round =>
    obtain ⟨k, v1, v2, M1, M2, ps, hk, rfl, Cr, T0, T1, fx, T, hM1, hM2, hn1, hn2, hrd⟩ := hrel
    obtain ⟨A4, c4, e4, hc4, -⟩ := T.o1; obtain ⟨A5, c5, e5, hc5, -⟩ := T.o2
    subst e4 e5
    have sr : w1.heap.size ≤ wr.heap.size := Cr.size
    have TT := Lib.hid T; have HC := Lib.hid Cr; have HM1 := Lib.hid hM1; have HM2 := Lib.hid hM2; have HRD := Lib.hid hrd; have HN1 := Lib.hid hn1; have HN2 := Lib.hid hn2; clear T hM1 hM2 hrd hn1 hn2
    have BW := Lib.hid (HB1.out.trans (Cr.below (B := w.heap.size) (by omega) (by omega)))
    have HRr := Lib.hid (HR.out.below BW.out (Nat.le_refl _))
    have HXr := Lib.hid (HS.out.chgB Cr (by omega))
    have r0 : wr.cell? ⟨w.heap.size, 0, none⟩ = some (.slice none 0 0) := (World.cell?_of_block (w := w1) (Cr.block w.heap.size (by omega) (.inl (by omega)))).trans R0.out
    have r1 : wr.cell? ⟨w.heap.size, 1, none⟩ = some (.slice none 0 0) := (World.cell?_of_block (w := w1) (Cr.block w.heap.size (by omega) (.inl (by omega)))).trans R1.out
    have f0 : ∀ o, wr.frozen? ⟨w.heap.size, o, none⟩ = false := fun o => (World.frozen?_of_block (w := w1) (Cr.block w.heap.size (by omega) (.inl (by omega)))).trans (FR.out o)
    clear Cr
    by_cases hlt : k < L.length
    · obtain ⟨z, hz⟩ : ∃ z, L[k]? = some z := ⟨_, List.getElem?_eq_getElem hlt⟩
      have cz : wr.cell? ⟨g, k, none⟩ = some (strL z) := by have q := HXr.out.cell_ hz; rwa [Nat.zero_add] at q
      have hg2 := HXr.out.lt_
      have hzl := HW.out z (List.mem_of_getElem? hz)
      have HZ := Lib.hid hz; clear hz
      have kk0 : (0 : Int) ≤ k := by omega
      have kk1 : (k : Int) < L.length := by omega
      have CC := Lib.hid (cut_any z 64 wr (by omega) HRr.out)
      have HQ := Lib.hid (fun x y => wQ_of (b := 64) (z := z) (x := x) (y := y))
      have HQN := Lib.hid (wQ_no (b := 64) (z := z))
      obtain ⟨lp, lq⟩ := cut_len z 64
      obtain ⟨p, hp⟩ : ∃ p, p = (Lib.cut z [64]).1 := ⟨_, rfl⟩
      obtain ⟨q, hq⟩ : ∃ q, q = (Lib.cut z [64]).2.1 := ⟨_, rfl⟩
      obtain ⟨tb, htb⟩ : ∃ tb, tb = (Lib.cut z [64]).2.2 := ⟨_, rfl⟩
      rw [← hp, ← hq, ← htb] at CC
      rw [← hp] at lp; rw [← hq] at lq
      rw [← hp, ← hq] at HQN
      simp only [← hp, ← hq] at HQ
      clear hp hq htb
      have RP := Lib.hid (fun W (h : Below wr.heap.size wr W) => readNumber_any p W (by omega) (HRr.out.below h (Nat.le_refl _)))
      have RQ := Lib.hid (fun W (h : Below wr.heap.size wr W) => readNumber_any q W (by omega) (HRr.out.below h (Nat.le_refl _)))
      cases h3 : rdZ p with
      | none =>
        obtain ⟨E1, E2, E3⟩ := HNone.out (rdL_none (HQN.out (.inl h3)) L (List.mem_of_getElem? HZ.out))
        have F1 := Lib.hid E1; have F2 := Lib.hid E2; have F3 := Lib.hid E3; clear E1 E2 E3
        rw [h3] at RP
        clear h3
        go_wp2_with (first
          | (go_at_call 64; refine CC.out.mono ?_; rintro e_ w2 ⟨rfl, hb2⟩; have HB2 := Lib.hid hb2; have hz2 := hb2.size; clear hb2)
          | (go_at_call 65; refine (RQ.out _ HB3.out).mono ?_; rintro e_ w4 ⟨⟨n4, rfl, hn4⟩, hb4⟩; have HB4 := Lib.hid (HB3.out.trans (hb4.mono hz3)); have hz4 := HB4.out.size; clear hb4; have ly4 : w.heap.size < w4.heap.size := (by omega); have lz4 : w.heap.size + 1 < w4.heap.size := (by omega); have k0 := (bAt HB4.out (b := w.heap.size + 1) (o := 0) (by omega)).trans T0; have k1 := (bAt HB4.out (b := w.heap.size + 1) (o := 1) (by omega)).trans T1; have k2 := (bAt HB4.out (b := w.heap.size) (o := 0) (by omega)).trans r0; have k3 := (bAt HB4.out (b := w.heap.size) (o := 1) (by omega)).trans r1; have k4 : ∀ o, w4.frozen? ⟨w.heap.size + 1, o, none⟩ = false := fun o => (bAtF HB4.out (b := w.heap.size + 1) (o := o) (by omega)).trans (fx o); have k5 : ∀ o, w4.frozen? ⟨w.heap.size, o, none⟩ = false := fun o => (bAtF HB4.out (b := w.heap.size) (o := o) (by omega)).trans (f0 o))
          | (go_at_call 65; refine (RP.out _ HB2.out).mono ?_; rintro e_ w3 ⟨⟨n3, rfl, hn3⟩, hb3⟩; have HB3 := Lib.hid (HB2.out.trans (hb3.mono hz2)); have hz3 := HB3.out.size; clear hb3))
        all_goals refine bodyPost_ret (by simp [results, Tryd.results20, go_sem, *] <;> rfl) rfl ?_
        all_goals exact ⟨⟨none, 0, none, 0, by rw [F1.out, F2.out, F3.out]; rfl, by rw [F1.out, F2.out]; exact ResP.nil _ _ _ _ _⟩, BW.out.trans (Below.trans (HB4.out.mono (by omega)) (by go_grown))⟩
      | some a =>
        cases h4 : rdZ q with
        | none =>
          obtain ⟨E1, E2, E3⟩ := HNone.out (rdL_none (HQN.out (.inr h4)) L (List.mem_of_getElem? HZ.out))
          have F1 := Lib.hid E1; have F2 := Lib.hid E2; have F3 := Lib.hid E3; clear E1 E2 E3
          rw [h3] at RP
          rw [h4] at RQ
          clear h3 h4
          go_wp2_with (first
          | (go_at_call 64; refine CC.out.mono ?_; rintro e_ w2 ⟨rfl, hb2⟩; have HB2 := Lib.hid hb2; have hz2 := hb2.size; clear hb2)
          | (go_at_call 65; refine (RQ.out _ HB3.out).mono ?_; rintro e_ w4 ⟨⟨n4, rfl, hn4⟩, hb4⟩; have HB4 := Lib.hid (HB3.out.trans (hb4.mono hz3)); have hz4 := HB4.out.size; clear hb4; have ly4 : w.heap.size < w4.heap.size := (by omega); have lz4 : w.heap.size + 1 < w4.heap.size := (by omega); have k0 := (bAt HB4.out (b := w.heap.size + 1) (o := 0) (by omega)).trans T0; have k1 := (bAt HB4.out (b := w.heap.size + 1) (o := 1) (by omega)).trans T1; have k2 := (bAt HB4.out (b := w.heap.size) (o := 0) (by omega)).trans r0; have k3 := (bAt HB4.out (b := w.heap.size) (o := 1) (by omega)).trans r1; have k4 : ∀ o, w4.frozen? ⟨w.heap.size + 1, o, none⟩ = false := fun o => (bAtF HB4.out (b := w.heap.size + 1) (o := o) (by omega)).trans (fx o); have k5 : ∀ o, w4.frozen? ⟨w.heap.size, o, none⟩ = false := fun o => (bAtF HB4.out (b := w.heap.size) (o := o) (by omega)).trans (f0 o))
          | (go_at_call 65; refine (RP.out _ HB2.out).mono ?_; rintro e_ w3 ⟨⟨n3, rfl, hn3⟩, hb3⟩; have HB3 := Lib.hid (HB2.out.trans (hb3.mono hz2)); have hz3 := HB3.out.size; clear hb3))
          all_goals refine bodyPost_ret (by simp [results, Tryd.results20, go_sem, *] <;> rfl) rfl ?_
          all_goals exact ⟨⟨none, 0, none, 0, by rw [F1.out, F2.out, F3.out]; rfl, by rw [F1.out, F2.out]; exact ResP.nil _ _ _ _ _⟩, BW.out.trans (Below.trans (HB4.out.mono (by omega)) (by go_grown))⟩
        | some b =>
          have HN := Lib.hid (rdL_next HRD.out HZ.out (HQ.out a b h3 h4))
          rw [h3] at RP
          rw [h4] at RQ
          clear h3 h4
          go_wp2_with (first
          | (go_at_call 64; refine CC.out.mono ?_; rintro e_ w2 ⟨rfl, hb2⟩; have HB2 := Lib.hid hb2; have hz2 := hb2.size; clear hb2)
          | (go_at_call 65; refine (RQ.out _ HB3.out).mono ?_; rintro e_ w4 ⟨⟨n4, rfl, hn4⟩, hb4⟩; have HB4 := Lib.hid (HB3.out.trans (hb4.mono hz3)); have hz4 := HB4.out.size; clear hb4; have ly4 : w.heap.size < w4.heap.size := (by omega); have lz4 : w.heap.size + 1 < w4.heap.size := (by omega); have k0 := (bAt HB4.out (b := w.heap.size + 1) (o := 0) (by omega)).trans T0; have k1 := (bAt HB4.out (b := w.heap.size + 1) (o := 1) (by omega)).trans T1; have k2 := (bAt HB4.out (b := w.heap.size) (o := 0) (by omega)).trans r0; have k3 := (bAt HB4.out (b := w.heap.size) (o := 1) (by omega)).trans r1; have k4 : ∀ o, w4.frozen? ⟨w.heap.size + 1, o, none⟩ = false := fun o => (bAtF HB4.out (b := w.heap.size + 1) (o := o) (by omega)).trans (fx o); have k5 : ∀ o, w4.frozen? ⟨w.heap.size, o, none⟩ = false := fun o => (bAtF HB4.out (b := w.heap.size) (o := o) (by omega)).trans (f0 o); obtain rfl := hn4 b rfl; clear hn4; have T4 := Lib.hid (TT.out.keep (KeepX.of_below HB4.out)); have C4 := Lib.hid (HC.out.trans (ChgB.of_below (lo := w.heap.size + 1) (hi := w.heap.size + 2) HB4.out)))
          | (go_at_call 65; refine (RP.out _ HB2.out).mono ?_; rintro e_ w3 ⟨⟨n3, rfl, hn3⟩, hb3⟩; have HB3 := Lib.hid (HB2.out.trans (hb3.mono hz2)); have hz3 := HB3.out.size; clear hb3; obtain rfl := hn3 a rfl; clear hn3)
          | (at_builtin; (refine listTwo rfl _ _ rfl (w1.heap.size) (w.heap.size + 1) _ _ _ _ n4 _ rfl rfl ?_ (TT5.out.symm.keep (by repeat' (first | with_reducible exact KeepX.refl _ _ _ _ | with_reducible refine KeepX.setB ?_ ?_ _ | with_reducible refine KeepX.alloc ?_ ?_ _ | with_reducible refine KeepX.drew ?_ | omega | (simp; done) | (simp; omega)))) ?_ ?_ ?_ ?_; (focus (simp [*, go_sem]; done)); (focus (have q1_ := HN1.out; have q2_ := HN2.out; (try rw [List.length_append]); omega)); (focus first | omega | (simp; done) | (simp; omega)); (focus first | omega | (simp; done) | (simp; omega)); intro A15 c15 w6 T6 F6; obtain ⟨q6, s6, x6, y6⟩ := fkeep [w.heap.size, w.heap.size + 1] (by first | (simp; done) | (simp; omega)) F6; have TT6 := Lib.hid T6; have z6 := F6.size; (try simp only [World.size_alloc, World.size_drew, size_set] at z6); have ly6 : w.heap.size < w6.heap.size := (by omega); have lz6 : w.heap.size + 1 < w6.heap.size := (by omega); have C6 := Lib.hid (show ChgB (w.heap.size + 1) (w.heap.size + 2) w1 w6 from ChgB.far_ (by repeat' (first | with_reducible exact C5.out | with_reducible refine ChgB.setI_ ?_ ?_ ?_ _ | with_reducible refine ChgB.alloc_ ?_ _ | with_reducible refine ChgB.drew_ ?_ | omega | (simp; done) | (simp; omega))) F6 (Nat.le_refl _)); clear T6 F6))
          | (at_builtin; (refine listTwo rfl _ _ rfl (w1.heap.size) (w.heap.size + 1) _ _ _ _ n3 _ rfl rfl ?_ (T4.out.keep (by repeat' (first | with_reducible exact KeepX.refl _ _ _ _ | with_reducible refine KeepX.setB ?_ ?_ _ | with_reducible refine KeepX.alloc ?_ ?_ _ | with_reducible refine KeepX.drew ?_ | omega | (simp; done) | (simp; omega)))) ?_ ?_ ?_ ?_; (focus (simp [*, go_sem]; done)); (focus (have q1_ := HN1.out; have q2_ := HN2.out; (try rw [List.length_append]); omega)); (focus first | omega | (simp; done) | (simp; omega)); (focus first | omega | (simp; done) | (simp; omega)); intro A14 c14 w5 T5 F5; obtain ⟨q5, s5, x5, y5⟩ := fkeep [w.heap.size, w.heap.size + 1] (by first | (simp; done) | (simp; omega)) F5; have TT5 := Lib.hid T5; have z5 := F5.size; (try simp only [World.size_alloc, World.size_drew, size_set] at z5); have ly5 : w.heap.size < w5.heap.size := (by omega); have lz5 : w.heap.size + 1 < w5.heap.size := (by omega); have C5 := Lib.hid (show ChgB (w.heap.size + 1) (w.heap.size + 2) w1 w5 from ChgB.far_ (by repeat' (first | with_reducible exact C4.out | with_reducible refine ChgB.setI_ ?_ ?_ ?_ _ | with_reducible refine ChgB.alloc_ ?_ _ | with_reducible refine ChgB.drew_ ?_ | omega | (simp; done) | (simp; omega))) F5 (Nat.le_refl _)); clear T5 F5)))
          go_roundw
          all_goals first | exact ⟨k + 1, _, _, M1 ++ [n3], M2 ++ [n4], ps ++ [(n3, n4)], by omega, by go_num, (by repeat' (first | with_reducible exact C6.out | with_reducible refine ChgB.setI_ ?_ ?_ ?_ _ | with_reducible refine ChgB.alloc_ ?_ _ | with_reducible refine ChgB.drew_ ?_ | omega | (simp; done) | (simp; omega))), by simp [*, go_sem] <;> rfl, by simp [*, go_sem] <;> rfl, fun o => by simp [*, go_sem], (TT6.out.keep (by repeat' (first | with_reducible exact KeepX.refl _ _ _ _ | with_reducible refine KeepX.setB ?_ ?_ _ | with_reducible refine KeepX.alloc ?_ ?_ _ | with_reducible refine KeepX.drew ?_ | omega | (simp; done) | (simp; omega)))).symm, by rw [HM1.out, List.map_append]; rfl, by rw [HM2.out, List.map_append]; rfl, by rw [List.length_append, HN1.out]; rfl, by rw [List.length_append, HN2.out]; rfl, HN.out⟩ | (simp [intOf]; omega)
    · obtain rfl : k = L.length := by omega
      have e := HRD.out
      rw [List.take_length] at e
      have TR := Lib.hid TT.out.res
      have AS := Lib.hid (fun W (h : ProfAt W A4 c4 A5 c5 M1 M2) => implIsGauge_any A4 A5 c4 c5 M1 M2 W h)
      by_cases hf : gauB M1 M2 = true
      · obtain ⟨E1, E2, E3⟩ := HOk.out ps e (by rw [← HM1.out, ← HM2.out]; exact hf)
        have F1 := Lib.hid (E1.trans HM1.out.symm); have F2 := Lib.hid (E2.trans HM2.out.symm); have F3 := Lib.hid E3; clear E1 E2 E3
        go_wp2_with (go_at_call 33; refine (implIsGauge_any _ _ _ _ _ _ _ ⟨TR.out.1.at.below (B := wr.heap.size) (by first | exact Below.refl _ _ | (go_grown; done) | exact bdrewN (Below.refl _ _) _) (Nat.le_refl _), TR.out.2.1.at.below (B := wr.heap.size) (by first | exact Below.refl _ _ | (go_grown; done) | exact bdrewN (Below.refl _ _) _) (Nat.le_refl _)⟩).mono ?_; rintro e w8 ⟨rfl, hb8⟩; obtain ⟨B8, hz8, q8, s8, t8, x8, y8, z8⟩ := bkeep (w := wr) [w.heap.size, w.heap.size + 1] (by first | (simp; done) | (simp; omega)) (by first | (go_grown; done) | exact bdrewN (by go_grown) _) hb8; (try simp at hz8); clear hb8)
        refine bodyPost_ret (by simp [results, Tryd.results20, go_sem, *] <;> rfl) rfl ?_
        have TR8 := TR.out.below B8 (Nat.le_refl _)
        refine ⟨⟨A4, c4, A5, c5, by rw [F1.out, F2.out, F3.out], ?_⟩, BW.out.trans ((show Below w.heap.size wr w8 from B8.mono (by omega)).trans (by go_grown))⟩
        rw [F1.out, F2.out]
        refine ResP.mono (lo := w1.heap.size) (hi := wr.heap.size) ⟨TR8.1.kept ?_, TR8.2.1.kept ?_, TR8.2.2⟩ (by omega) (by simp only [size_set]; omega)
        all_goals exact ((Keep.refl _ _ _).setB (by omega) _).setB (by omega) _
      · obtain ⟨E1, E2, E3⟩ := HBad.out ps e (by rw [← HM1.out, ← HM2.out]; exact hf)
        have F1 := Lib.hid E1; have F2 := Lib.hid E2; have F3 := Lib.hid E3; clear E1 E2 E3
        have hf' : gauB M1 M2 = false := by simpa using hf
        clear hf
        go_wp2_with (go_at_call 33; refine (implIsGauge_any _ _ _ _ _ _ _ ⟨TR.out.1.at.below (B := wr.heap.size) (by first | exact Below.refl _ _ | (go_grown; done) | exact bdrewN (Below.refl _ _) _) (Nat.le_refl _), TR.out.2.1.at.below (B := wr.heap.size) (by first | exact Below.refl _ _ | (go_grown; done) | exact bdrewN (Below.refl _ _) _) (Nat.le_refl _)⟩).mono ?_; rintro e w8 ⟨rfl, hb8⟩; obtain ⟨B8, hz8, q8, s8, t8, x8, y8, z8⟩ := bkeep (w := wr) [w.heap.size, w.heap.size + 1] (by first | (simp; done) | (simp; omega)) (by first | (go_grown; done) | exact bdrewN (by go_grown) _) hb8; (try simp at hz8); clear hb8)
        refine bodyPost_ret (by simp [results, Tryd.results20, go_sem, *] <;> rfl) rfl ?_
        exact ⟨⟨none, 0, none, 0, by rw [F1.out, F2.out, F3.out]; rfl, by rw [F1.out, F2.out]; exact ResP.nil _ _ _ _ _⟩, BW.out.trans ((show Below w.heap.size wr w8 from B8.mono (by omega)).trans (by go_grown))⟩
end Go.Proofs.YtebdokpokbcgjaaDoor
