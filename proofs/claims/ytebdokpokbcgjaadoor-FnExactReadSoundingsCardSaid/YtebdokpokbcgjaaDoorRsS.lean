/- ReadSoundings, by the reference. -/
import Derived.Test.YtebdokpokbcgjaaDoorRdP
namespace Go.Proofs.YtebdokpokbcgjaaDoor
set_option linter.unusedSimpArgs false
set_option linter.unusedVariables false
open Go.RowKit

set_option maxRecDepth 20000 in
set_option maxHeartbeats 4000000 in
theorem specReadSoundings_any (l : List UInt8) (w : World) (hl : l.length ≤ 1048576) :
    Calls Tryd.prog 23 #[strL l] w fun e w' => (∃ A' c', e = .returned (.tuple #[.slice A' (rsR l).length c', .bool (rsK l)]) ∧ ResS w' w.heap.size w'.heap.size A' c' (rsR l)) ∧ Below w.heap.size w w' := by
  by_cases h0 : l = []
  · subst h0
    obtain ⟨e1, e2⟩ := rs_yes (rs_nil _)
    have E1 := Lib.hid e1; have E2 := Lib.hid e2; clear e1 e2
    have hb0 : (([] : List UInt8) == []) = true := rfl
    go_enter Tryd.func23, Tryd.ntmps23
    go_wp2
    go_ret2
    exact ⟨⟨_, _, by rw [E1.out, E2.out]; rfl, by rw [E1.out]; exact ResS.nil _ _ _ _ _ (by omega)⟩, by go_grown⟩
  · have hb0 : (l == []) = false := beq_eq_false_iff_ne.2 h0
    have HNone := Lib.hid (show rdL (wF rdS) (spl 59 l) = none → rsR l = [] ∧ rsK l = false from fun q => rs_no (rs_none h0 q))
    have HBad := Lib.hid (show ∀ xs, rdL (wF rdS) (spl 59 l) = some xs → ¬ sndsB xs = true → rsR l = [] ∧ rsK l = false from fun xs q q' => rs_no (rs_bad h0 q q'))
    have HOk := Lib.hid (show ∀ xs, rdL (wF rdS) (spl 59 l) = some xs → sndsB xs = true → rsR l = xs ∧ rsK l = true from fun xs q q' => rs_yes (rs_ok h0 q q'))
    have hL : (spl 59 l).length ≤ 1048577 := by have := splB_size 59 l []; unfold spl; omega
    have HW := Lib.hid (show ∀ z ∈ spl 59 l, z.length ≤ 1048576 from fun z hz => by have := spl_word hz; omega)
    clear h0
    have SP := Lib.hid (fun W => l01Split_any l 59 W (by omega))
    obtain ⟨L, hLe⟩ : ∃ L, L = spl 59 l := ⟨_, rfl⟩
    rw [← hLe] at SP hL HW HNone HBad HOk
    clear hLe
    go_enter Tryd.func23, Tryd.ntmps23
    go_wp2_with (go_at_call 61; refine (SP.out _).mono ?_; rintro e_ w1 ⟨⟨g, c, rfl, hs, hg⟩, hb1⟩; have hz1 := hb1.size; (try simp only [World.size_alloc, World.size_drew, size_set] at hz1 hg); have HB1 := Lib.hid (Below.trans (show Below w.heap.size w _ from (by first | exact Below.refl _ _ | (go_grown; done) | exact bdrewN (Below.refl _ _) _)) (hb1.mono (by first | omega | (simp; done) | (simp; omega)))); have T1 := Lib.hid ((OwnK.zero (w := w) (base := w.heap.size) (e := 73) (size := 4) (Nat.le_refl _)).below hb1 (Nat.le_refl _)); clear hb1)
    have hgl := hs.lt_
    have HS := Lib.hid hs; clear hs
    go_loopw [4, 6] (fun o i wr => Below w.heap.size w wr ∧ ∃ (k : Nat) (xs : List Snd), k ≤ L.length ∧ xs.length = k ∧ i = .int .i64 k ∧ OwnK wr w.heap.size 73 4 o (xs.map sn4) ∧ o.ownBlock ≠ some g ∧ StrsAt wr (some ⟨g, 0, none⟩) c L ∧ rdL (wF rdS) (L.take k) = some xs) (fun _ i _ => L.length - (intOf i).toNat)
    case atStart => exact ⟨HB1.out, 0, [], by omega, rfl, rfl, T1.out, (by show some w.heap.size ≠ some g; simp; omega), HS.out, rfl⟩
    case round =>
      obtain ⟨Br, k, xs, hk, hM, rfl, hown, hne, hst, hrd⟩ := hrel
      have HXr := Lib.hid hst; clear hst
      obtain ⟨A', c', rfl, hc', ho, ha7⟩ := id hown
      have hln : (xs.map sn4).length = k := by rw [List.length_map, hM]
      rw [hln] at ho hown hne ⊢
      have sr := Br.size
      have HBr := Lib.hid Br; have HO := Lib.hid ho; have HOI := Lib.hid hown; have HRD := Lib.hid hrd; have HM := Lib.hid hM; have HLN := Lib.hid hln; have HA := Lib.hid ha7; clear Br hown hrd hM ho hln ha7
      have HNE := Lib.hid hne; clear hne
      by_cases hlt : k < L.length
      · obtain ⟨z, hz⟩ : ∃ z, L[k]? = some z := ⟨_, List.getElem?_eq_getElem hlt⟩
        have cz : wr.cell? ⟨g, k, none⟩ = some (strL z) := by have q := HXr.out.cell_ hz; rwa [Nat.zero_add] at q
        have hg2 := HXr.out.lt_
        have hzl := HW.out z (List.mem_of_getElem? hz)
        have HZ := Lib.hid hz; clear hz
        have kk0 : (0 : Int) ≤ k := by omega
        have kk1 : (k : Int) < L.length := by omega
        have SZ := Lib.hid (fun W => l01Split_any z 32 W (by omega))
        have CN := Lib.hid (fun W A c (h : StrsAt W A c (spl 32 z)) => l01Numbers_any A c (spl 32 z) W h (by have := splB_size 32 z []; unfold spl; omega) (fun y hy => by have := spl_word hy; omega))
        have HWF := Lib.hid (show wF rdS z = (rdL rdS (spl 32 z)).bind four from rfl)
        obtain ⟨Z, hZ⟩ : ∃ Z, Z = spl 32 z := ⟨_, rfl⟩
        rw [← hZ] at SZ CN HWF
        clear hZ
        cases hr : rdL rdS Z with
        | none =>
          obtain ⟨E1, E2⟩ := HNone.out (rdL_none (by rw [HWF.out, hr]; rfl) L (List.mem_of_getElem? HZ.out))
          have F1 := Lib.hid E1; have F2 := Lib.hid E2; clear E1 E2
          rw [hr] at CN
          clear hr
          go_wp2_with (first
          | (go_at_call 61; refine (SZ.out _).mono ?_; rintro e_ w2 ⟨⟨g2, c2, rfl, hs2, -⟩, hb2⟩; have HS2 := Lib.hid hs2; have hz2 := hb2.size; have HB2 := Lib.hid hb2; clear hs2 hb2)
          | (go_at_call 62; refine (CN.out _ _ _ HS2.out).mono ?_; rintro e_ w3 ⟨hnr, hb3⟩; obtain rfl := hnr.none_; have HB3 := Lib.hid (HB2.out.trans (hb3.mono hz2)); clear hb3; have hz3 := HB3.out.size; have HO3 := Lib.hid (owns_below HO.out HB3.out (Nat.le_refl _))))
          go_ret2
          exact ⟨⟨none, 0, by rw [F1.out, F2.out]; rfl, by rw [F1.out]; exact ResS.nil _ _ _ _ _ (by omega)⟩, Below.trans (HBr.out.trans (HB3.out.mono (by omega))) (by first | exact Below.refl _ _ | (go_grown; done) | exact bdrewN (Below.refl _ _) _)⟩
        | some M =>
          by_cases h4 : M.length = 4
          · obtain ⟨s, hs⟩ := four_len h4
            have HN := Lib.hid (rdL_next HRD.out HZ.out (show wF rdS z = some s by rw [HWF.out, hr]; exact hs))
            obtain rfl := four_some hs
            rw [hr] at CN
            clear hr hs h4
            go_wp2_with (first
          | (go_at_call 61; refine (SZ.out _).mono ?_; rintro e_ w2 ⟨⟨g2, c2, rfl, hs2, -⟩, hb2⟩; have HS2 := Lib.hid hs2; have hz2 := hb2.size; have HB2 := Lib.hid hb2; clear hs2 hb2)
          | (go_at_call 62; refine (CN.out _ _ _ HS2.out).mono ?_; rintro e_ w3 ⟨hnr, hb3⟩; obtain ⟨A3, c3, rfl, hi3⟩ := hnr.some_; obtain ⟨b3, off3, rfl, hlt3, d0, d1, d2, d3⟩ := hi3.four_; have hc3 := hi3.1; (try simp only [List.length_cons, List.length_nil] at hc3); clear hnr hi3; have HB3 := Lib.hid (HB2.out.trans (hb3.mono hz2)); clear hb3; have hz3 := HB3.out.size; have HO3 := Lib.hid (owns_below HO.out HB3.out (Nat.le_refl _))))
            go_region_law (refine stepG rfl _ _ 34 rfl w.heap.size 73 (.agg #[.int .i64 0, .int .i64 0, .int .i64 0, .int .i64 0]) 4 32 Tryd.underlying34 infoSnd4 rfl (by omega) (sn4 s) rfl (by intro u hu; simp [sn4] at hu; rcases hu with rfl | rfl | rfl | rfl <;> rfl) _ _ _ rfl _ rfl (owns_below (B := w3.heap.size) HO3.out (by first | exact Below.refl _ _ | (go_grown; done) | exact bdrewN (Below.refl _ _) _ | (refine bdrewN ?_ _; go_grown; done) | (go_grown <;> first | exact bdrewN (Below.refl _ _) _ | exact Below.refl _ _)) (Nat.le_refl _)) ?_ ?_ ?_ ?_ ?_; (focus (intro q u hq; rcases q with _ | _ | _ | _ | q <;> simp [sn4] at hq <;> subst hq <;> simp [*, go_sem])); (focus (unfold maxLen; omega)); (focus omega); (focus (first | omega | (simp; omega))); intro v9 w9 hown9 hg9 hat9; have TT := Lib.hid (OwnK.next (show (xs ++ [s]).map sn4 = xs.map sn4 ++ [sn4 s] from by rw [List.map_append]; rfl) (by rw [HLN.out]; exact hown9) HA.out rfl); have X3 := Lib.hid (HXr.out.below HB3.out (Nat.le_refl _)); have HG := Lib.hid (show Below w.heap.size w w9 from Below.grow (HBr.out.trans (Below.trans (HB3.out.mono (by omega)) (show Below w.heap.size w3 _ from (by first | exact Below.refl _ _ | (go_grown; done) | exact bdrewN (Below.refl _ _) _ | (refine bdrewN ?_ _; go_grown; done) | (go_grown <;> first | exact bdrewN (Below.refl _ _) _ | exact Below.refl _ _))))) hg9 (fun k hk => (HO3.out.lt k hk).1) (by first | omega | (simp; omega))); have XS := Lib.hid ((X3.out.below (show Below w3.heap.size w3 _ from (by first | exact Below.refl _ _ | (go_grown; done) | exact bdrewN (Below.refl _ _) _ | (refine bdrewN ?_ _; go_grown; done) | (go_grown <;> first | exact bdrewN (Below.refl _ _) _ | exact Below.refl _ _))) (Nat.le_refl _)).grown hg9 HNE.out); have NE9 := Lib.hid (ne_hat hat9 HNE.out (by have := X3.out.lt_; first | omega | (simp; omega))); clear hown9 hg9 hat9)
            all_goals go_wp2
            all_goals go_roundw
            all_goals first | exact ⟨HG.out, k + 1, xs ++ [s], by omega, by rw [List.length_append, HM.out]; rfl, by go_num, TT.out, NE9.out, XS.out, HN.out⟩ | (simp [intOf]; omega)
          · obtain ⟨E1, E2⟩ := HNone.out (rdL_none (by rw [HWF.out, hr]; exact four_none h4) L (List.mem_of_getElem? HZ.out))
            have F1 := Lib.hid E1; have F2 := Lib.hid E2; clear E1 E2
            have h5 : ((M.length : Int) == 4) = false := beq_eq_false_iff_ne.2 (by omega)
            rw [hr] at CN
            clear hr
            go_wp2_with (first
          | (go_at_call 61; refine (SZ.out _).mono ?_; rintro e_ w2 ⟨⟨g2, c2, rfl, hs2, -⟩, hb2⟩; have HS2 := Lib.hid hs2; have hz2 := hb2.size; have HB2 := Lib.hid hb2; clear hs2 hb2)
          | (go_at_call 62; refine (CN.out _ _ _ HS2.out).mono ?_; rintro e_ w3 ⟨hnr, hb3⟩; obtain ⟨A3, c3, rfl, hi3⟩ := hnr.some_; have HB3 := Lib.hid (HB2.out.trans (hb3.mono hz2)); clear hb3; have hz3 := HB3.out.size; have HO3 := Lib.hid (owns_below HO.out HB3.out (Nat.le_refl _))))
            go_ret2
            exact ⟨⟨none, 0, by rw [F1.out, F2.out]; rfl, by rw [F1.out]; exact ResS.nil _ _ _ _ _ (by omega)⟩, Below.trans (HBr.out.trans (HB3.out.mono (by omega))) (by first | exact Below.refl _ _ | (go_grown; done) | exact bdrewN (Below.refl _ _) _)⟩
      · obtain rfl : k = L.length := by omega
        have e := HRD.out
        rw [List.take_length] at e
        have RS := Lib.hid ((OwnK.res HOI.out).2.snds)
        have AS := Lib.hid (fun W (h : SndsAt W A' c' xs) => specAreSoundings_any A' c' xs W h)
        rw [HM.out] at AS
        by_cases hb : sndsB xs = true
        · obtain ⟨E1, E2⟩ := HOk.out xs e hb
          have F1 := Lib.hid E1; have F2 := Lib.hid E2; clear E1 E2
          go_wp2_with (go_at_call 55; refine (AS.out _ (RS.out.at.below (B := wr.heap.size) (by first | exact Below.refl _ _ | (go_grown; done) | exact bdrewN (Below.refl _ _) _) (Nat.le_refl _))).mono ?_; rintro e_ w5 ⟨rfl, hb5⟩)
          go_ret2
          exact ⟨⟨A', c', by rw [F1.out, F2.out, HM.out]; rfl, by rw [F1.out]; exact (RS.out.below hb5 (Nat.le_refl _)).mono (by omega) hb5.size⟩, HBr.out.trans (hb5.mono (by omega))⟩
        · obtain ⟨E1, E2⟩ := HBad.out xs e hb
          have F1 := Lib.hid E1; have F2 := Lib.hid E2; clear E1 E2
          have hb' : sndsB xs = false := by simpa using hb
          clear hb
          go_wp2_with (go_at_call 55; refine (AS.out _ (RS.out.at.below (B := wr.heap.size) (by first | exact Below.refl _ _ | (go_grown; done) | exact bdrewN (Below.refl _ _) _) (Nat.le_refl _))).mono ?_; rintro e_ w5 ⟨rfl, hb5⟩)
          go_ret2
          exact ⟨⟨none, 0, by rw [F1.out, F2.out]; rfl, by rw [F1.out]; exact ResS.nil _ _ _ _ _ (by omega)⟩, HBr.out.trans (hb5.mono (by omega))⟩
end Go.Proofs.YtebdokpokbcgjaaDoor
