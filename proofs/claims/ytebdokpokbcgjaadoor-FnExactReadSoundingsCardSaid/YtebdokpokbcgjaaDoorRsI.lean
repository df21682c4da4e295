/- ReadSoundings, by the program. -/
import Derived.Test.YtebdokpokbcgjaaDoorRdP
namespace Go.Proofs.YtebdokpokbcgjaaDoor
set_option linter.unusedSimpArgs false
set_option linter.unusedVariables false
open Go.RowKit

set_option maxRecDepth 20000 in
set_option maxHeartbeats 4000000 in
theorem implReadSoundings_any (l : List UInt8) (w : World) (hl : l.length ≤ 1048576) (hr : RdW w) :
    Calls Tryd.prog 24 #[strL l] w fun e w' => (∃ A' c', e = .returned (.tuple #[.slice A' (rsR l).length c', .bool (rsK l)]) ∧ ResS w' w.heap.size w'.heap.size A' c' (rsR l)) ∧ Below w.heap.size w w' := by
  by_cases h0 : l = []
  · subst h0
    obtain ⟨e1, e2⟩ := rs_yes (rs_nil _)
    have E1 := Lib.hid e1; have E2 := Lib.hid e2; clear e1 e2
    have hb0 : (([] : List UInt8) == []) = true := rfl
    go_enter Tryd.func24, Tryd.ntmps24
    go_wp2
    go_ret2
    exact ⟨⟨_, _, by rw [E1.out, E2.out]; rfl, by rw [E1.out]; exact ResS.nil _ _ _ _ _ (by omega)⟩, by go_grown⟩
  · have hb0 : (l == []) = false := beq_eq_false_iff_ne.2 h0
    have HNone := Lib.hid (show rdL (wF rdZ) (spl 59 l) = none → rsR l = [] ∧ rsK l = false from fun q => rs_no ((rs_eq l).symm.trans <| rs_none h0 q))
    have HBad := Lib.hid (show ∀ xs, rdL (wF rdZ) (spl 59 l) = some xs → ¬ sndsB xs = true → rsR l = [] ∧ rsK l = false from fun xs q q' => rs_no ((rs_eq l).symm.trans <| rs_bad h0 q q'))
    have HOk := Lib.hid (show ∀ xs, rdL (wF rdZ) (spl 59 l) = some xs → sndsB xs = true → rsR l = xs ∧ rsK l = true from fun xs q q' => rs_yes ((rs_eq l).symm.trans <| rs_ok h0 q q'))
    have hL : (spl 59 l).length ≤ 1048577 := by have := splB_size 59 l []; unfold spl; omega
    have HW := Lib.hid (show ∀ z ∈ spl 59 l, z.length ≤ 1048576 from fun z hz => by have := spl_word hz; omega)
    clear h0
    have HR := Lib.hid hr; clear hr
    have SP := Lib.hid (split_any l 59 w (by omega) HR.out)
    obtain ⟨L, hLe⟩ : ∃ L, L = spl 59 l := ⟨_, rfl⟩
    rw [← hLe] at SP hL HW HNone HBad HOk
    clear hLe
    go_enter Tryd.func24, Tryd.ntmps24
    go_wp2_with (go_at_call 63; refine SP.out.mono ?_; rintro e_ w1 ⟨⟨A, c, rfl, hs⟩, hb1⟩)
    have HS := Lib.hid hs; clear hs
    have hz1 := hb1.size
    have HB1 := Lib.hid hb1; clear hb1
    go_loopw [4, 14] (fun o i wr => Below w1.heap.size w1 wr ∧ ∃ (k : Nat) (xs : List Snd), k ≤ L.length ∧ xs.length = k ∧ i = .int .i64 k ∧ OwnK wr w1.heap.size 73 4 o (xs.map sn4) ∧ rdL (wF rdZ) (L.take k) = some xs) (fun _ i _ => L.length - (intOf i).toNat)
    case atStart => exact ⟨Below.refl _ _, 0, [], by omega, rfl, rfl, OwnK.none_ _ _ _ _, rfl⟩
    case round =>
      obtain ⟨Br, k, xs, hk, hM, rfl, hown, hrd⟩ := hrel
      have HXr := Lib.hid (HS.out.below Br (Nat.le_refl _))
      have BW := Lib.hid (HB1.out.trans (Br.mono (show w.heap.size ≤ w1.heap.size by omega)))
      have HRr := Lib.hid (HR.out.below BW.out (Nat.le_refl _))
      obtain ⟨A', c', rfl, hc', ho, ha7⟩ := id hown
      have hln : (xs.map sn4).length = k := by rw [List.length_map, hM]
      rw [hln] at ho hown ⊢
      have sr := Br.size
      have HBr := Lib.hid Br; have HO := Lib.hid ho; have HOI := Lib.hid hown; have HRD := Lib.hid hrd; have HM := Lib.hid hM; have HLN := Lib.hid hln; have HA := Lib.hid ha7; clear Br hown hrd hM ho hln ha7
      by_cases hlt : k < L.length
      · obtain ⟨g, off, z, rfl, hg2, hz, cz⟩ := HXr.out.at_ hlt
        have hzl := HW.out z (List.mem_of_getElem? hz)
        have HZ := Lib.hid hz; clear hz
        have kk0 : (0 : Int) ≤ k := by omega
        have kk1 : (k : Int) < L.length := by omega
        have CN := Lib.hid (readNumbers_any z 32 4 wr (by omega) HRr.out (by omega))
        have HWF := Lib.hid (show wF rdZ z = (rdL rdZ (spl 32 z)).bind four from rfl)
        obtain ⟨Z, hZ⟩ : ∃ Z, Z = spl 32 z := ⟨_, rfl⟩
        rw [← hZ] at CN HWF
        clear hZ
        cases hr : rdL rdZ Z with
        | none =>
          obtain ⟨E1, E2⟩ := HNone.out (rdL_none (by rw [HWF.out, hr]; rfl) L (List.mem_of_getElem? HZ.out))
          have F1 := Lib.hid E1; have F2 := Lib.hid E2; clear E1 E2
          rw [hr] at CN
          clear hr
          go_wp2_with (first
          | (go_at_call 68; refine CN.out.mono ?_; rintro e_ w3 ⟨hnr, hb3⟩; obtain rfl := hnr.none_; have HB3 := Lib.hid hb3; clear hb3; have hz3 := HB3.out.size; have HO3 := Lib.hid (owns_below HO.out HB3.out (Nat.le_refl _))))
          go_ret2
          exact ⟨⟨none, 0, by rw [F1.out, F2.out]; rfl, by rw [F1.out]; exact ResS.nil _ _ _ _ _ (by omega)⟩, Below.trans (BW.out.trans (HB3.out.mono (by omega))) (by first | exact Below.refl _ _ | (go_grown; done) | exact bdrewN (Below.refl _ _) _)⟩
        | some M =>
          by_cases h4 : M.length = 4
          · obtain ⟨s, hs⟩ := four_len h4
            have HN := Lib.hid (rdL_next HRD.out HZ.out (show wF rdZ z = some s by rw [HWF.out, hr]; exact hs))
            obtain rfl := four_some hs
            rw [hr] at CN
            clear hr hs h4
            go_wp2_with (first
          | (go_at_call 68; refine CN.out.mono ?_; rintro e_ w3 ⟨hnr, hb3⟩; obtain ⟨A3, c3, rfl, hi3⟩ := hnr.some_; obtain ⟨b3, off3, rfl, hlt3, d0, d1, d2, d3⟩ := hi3.four_; have hc3 := hi3.1; (try simp only [List.length_cons, List.length_nil] at hc3); clear hnr hi3; have HB3 := Lib.hid hb3; clear hb3; have hz3 := HB3.out.size; have HO3 := Lib.hid (owns_below HO.out HB3.out (Nat.le_refl _))))
            go_region_law (refine stepG rfl _ _ 34 rfl w1.heap.size 73 (.agg #[.int .i64 0, .int .i64 0, .int .i64 0, .int .i64 0]) 4 32 Tryd.underlying34 infoSnd4 rfl (by omega) (sn4 s) rfl (by intro u hu; simp [sn4] at hu; rcases hu with rfl | rfl | rfl | rfl <;> rfl) _ _ _ rfl _ rfl (owns_below (B := w3.heap.size) HO3.out (by first | exact Below.refl _ _ | (go_grown; done) | exact bdrewN (Below.refl _ _) _ | (refine bdrewN ?_ _; go_grown; done) | (go_grown <;> first | exact bdrewN (Below.refl _ _) _ | exact Below.refl _ _)) (Nat.le_refl _)) ?_ ?_ ?_ ?_ ?_; (focus (intro q u hq; rcases q with _ | _ | _ | _ | q <;> simp [sn4] at hq <;> subst hq <;> simp [*, go_sem])); (focus (unfold maxLen; omega)); (focus omega); (focus (first | omega | (simp; omega))); intro v9 w9 hown9 hg9 hat9; have TT := Lib.hid (OwnK.next (show (xs ++ [s]).map sn4 = xs.map sn4 ++ [sn4 s] from by rw [List.map_append]; rfl) (by rw [HLN.out]; exact hown9) HA.out rfl); have HG := Lib.hid (show Below w1.heap.size w1 w9 from Below.grow (HBr.out.trans (Below.trans (HB3.out.mono (by omega)) (show Below w1.heap.size w3 _ from (by first | exact Below.refl _ _ | (go_grown; done) | exact bdrewN (Below.refl _ _) _ | (refine bdrewN ?_ _; go_grown; done) | (go_grown <;> first | exact bdrewN (Below.refl _ _) _ | exact Below.refl _ _))))) hg9 (fun k hk => (HO3.out.lt k hk).1) (by first | omega | (simp; omega))); clear hown9 hg9 hat9)
            all_goals go_wp2
            all_goals go_roundw
            all_goals first | exact ⟨HG.out, k + 1, xs ++ [s], by omega, by rw [List.length_append, HM.out]; rfl, by go_num, TT.out, HN.out⟩ | (simp [intOf]; omega)
          · obtain ⟨E1, E2⟩ := HNone.out (rdL_none (by rw [HWF.out, hr]; exact four_none h4) L (List.mem_of_getElem? HZ.out))
            have F1 := Lib.hid E1; have F2 := Lib.hid E2; clear E1 E2
            have h5 : ((M.length : Int) == 4) = false := beq_eq_false_iff_ne.2 (by omega)
            rw [hr] at CN
            clear hr
            go_wp2_with (first
          | (go_at_call 68; refine CN.out.mono ?_; rintro e_ w3 ⟨hnr, hb3⟩; obtain ⟨A3, c3, rfl, hi3⟩ := hnr.some_; have HB3 := Lib.hid hb3; clear hb3; have hz3 := HB3.out.size; have HO3 := Lib.hid (owns_below HO.out HB3.out (Nat.le_refl _))))
            go_ret2
            exact ⟨⟨none, 0, by rw [F1.out, F2.out]; rfl, by rw [F1.out]; exact ResS.nil _ _ _ _ _ (by omega)⟩, Below.trans (BW.out.trans (HB3.out.mono (by omega))) (by first | exact Below.refl _ _ | (go_grown; done) | exact bdrewN (Below.refl _ _) _)⟩
      · obtain rfl : k = L.length := by omega
        have e := HRD.out
        rw [List.take_length] at e
        have RS := Lib.hid ((OwnK.res HOI.out).2.snds)
        have AS := Lib.hid (fun W (h : SndsAt W A' c' xs) => implAreSoundings_any A' c' xs W h)
        rw [HM.out] at AS
        by_cases hb : sndsB xs = true
        · obtain ⟨E1, E2⟩ := HOk.out xs e hb
          have F1 := Lib.hid E1; have F2 := Lib.hid E2; clear E1 E2
          go_wp2_with (go_at_call 58; refine (AS.out _ (RS.out.at.below (B := wr.heap.size) (by first | exact Below.refl _ _ | (go_grown; done) | exact bdrewN (Below.refl _ _) _) (Nat.le_refl _))).mono ?_; rintro e_ w5 ⟨rfl, hb5⟩)
          go_ret2
          exact ⟨⟨A', c', by rw [F1.out, F2.out, HM.out]; rfl, by rw [F1.out]; exact (RS.out.below hb5 (Nat.le_refl _)).mono (by omega) hb5.size⟩, BW.out.trans (hb5.mono (by omega))⟩
        · obtain ⟨E1, E2⟩ := HBad.out xs e hb
          have F1 := Lib.hid E1; have F2 := Lib.hid E2; clear E1 E2
          have hb' : sndsB xs = false := by simpa using hb
          clear hb
          go_wp2_with (go_at_call 58; refine (AS.out _ (RS.out.at.below (B := wr.heap.size) (by first | exact Below.refl _ _ | (go_grown; done) | exact bdrewN (Below.refl _ _) _) (Nat.le_refl _))).mono ?_; rintro e_ w5 ⟨rfl, hb5⟩)
          go_ret2
          exact ⟨⟨none, 0, by rw [F1.out, F2.out]; rfl, by rw [F1.out]; exact ResS.nil _ _ _ _ _ (by omega)⟩, BW.out.trans (hb5.mono (by omega))⟩
end Go.Proofs.YtebdokpokbcgjaaDoor
