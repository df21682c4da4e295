/- SoundingsText, by the reference. -/
import Derived.Test.YtebdokpokbcgjaaDoorSt0
import Derived.BigRegion
import Derived.BigQuiet
import Derived.Deep.DeepCutAuto
namespace Go.Proofs.YtebdokpokbcgjaaDoor
set_option linter.unusedSimpArgs false
set_option linter.unusedVariables false
open Go.RowKit

set_option maxRecDepth 20000 in
set_option maxHeartbeats 4000000 in
theorem specSoundingsText_any (A : Option Addr) (c : Nat) (xs : List Snd) (w : World) (hx : SndsAt w A c xs) :
    Calls Tryd.prog 15 #[.slice A xs.length c] w fun e w' => e = .returned (strL (stS xs)) ∧ Below w.heap.size w w' := by
  have hn := Nat.le_trans hx.1 hx.2.1
  have HX := Lib.hid hx; clear hx
  by_cases hv : sndsB xs = true
  · have l2 := st_len hv
    have HS := Lib.hid (show stS xs = stJ xs xs.length by unfold stS; rw [if_pos hv])
    have HL := Lib.hid (fun k => stJ_len (k := k) hv)
    go_enter Tryd.func15, Tryd.ntmps15
    go_wp2_with (go_at_call 55; refine (specAreSoundings_any _ _ _ _ HX.out).mono ?_; rintro e w1 ⟨rfl, hb1⟩; obtain ⟨B1, hz1, q1, s1, t1, x1, y1, z1⟩ := bkeep (w := w) [] (by first | (simp; done) | (simp; omega)) (by first | (go_grown; done) | exact bdrewN (by go_grown) _) hb1; (try simp at hz1); clear hb1)
    go_loopw [3, 4] (fun o i wr => Below w.heap.size w wr ∧ ∃ k : Nat, k ≤ xs.length ∧ i = .int .i64 k ∧ OwnB wr w.heap.size o (stJ xs k)) (fun _ i _ => xs.length - (intOf i).toNat)
    case atStart => exact ⟨by go_grown, 0, by omega, rfl, OwnB.zero B1.size⟩
    case round =>
      obtain ⟨Br, k, hk, rfl, hown⟩ := hrel
      obtain ⟨A', c', rfl, hc', -⟩ := id hown
      have sr := Br.size
      have HBr := Lib.hid Br; clear Br
      have HO := Lib.hid hown; clear hown
      by_cases hlt : k < xs.length
      · obtain ⟨b0, off0, a, b, d, e, rfl, hb0, hxk, p0, p1, p2, p3⟩ := HX.out.at_ hlt
        have BD := st_bd hv hxk
        have F4 := Lib.hid (four_bd BD)
        have LW := stW_len (s := ⟨a, b, d, e⟩) BD
        have HK := Lib.hid hxk; clear hxk
        have tr := bold HBr.out
        have c0 := (tr _ _ hb0).trans p0
        have c1 := (tr _ _ hb0).trans p1
        have c2 := (tr _ _ hb0).trans p2
        have c3 := (tr _ _ hb0).trans p3
        clear p0 p1 p2 p3 tr BD
        have kk0 : (0 : Int) ≤ k := by omega
        have kk1 : (k : Int) < xs.length := by omega
        have hb1 : b0 < wr.heap.size := by omega
        have hs4 : Lib.join ([a, b, d, e].map Lib.itoa) [32] = stW ⟨a, b, d, e⟩ := rfl
        have lO := HL.out k
        have CJ := Lib.hid (show ∀ (W : World) (g : Nat), IntsAt W (some ⟨g, 0, none⟩) 4 [a, b, d, e] → Calls Tryd.prog 56 #[.slice (some ⟨g, 0, none⟩) 4 4, strL [32]] W fun e_ w' => e_ = .returned (strL (stW ⟨a, b, d, e⟩)) ∧ Below W.heap.size W w' from fun W g h => l01Join_any _ _ [a, b, d, e] [32] W h (by simp) (by simp) F4.out)
        by_cases hk0 : k = 0
        · have hkp : ((0 : Int) < (k : Int)) = False := eq_false (by omega)
          have hkq : (0 < k) = False := eq_false (by omega)
          have HE := Lib.hid (st_zero hk0 HK.out)
          obtain ⟨V, hV⟩ : ∃ V, V = stW ⟨a, b, d, e⟩ := ⟨_, rfl⟩
          rw [← hV] at LW HE CJ; clear hV hs4
          obtain ⟨O, hO⟩ : ∃ O, O = stJ xs k := ⟨_, rfl⟩
          rw [← hO] at lO HE HO ⊢; clear hO
          clear hk0
          go_wp2_with fail
          go_region_law (first
              | (go_simp; go_at_call 56; refine (CJ.out _ _ (four_at (by first | omega | (simp; done) | (simp; omega)) (by simp [*, go_sem]) (by simp [*, go_sem]) (by simp [*, go_sem]) (by simp [*, go_sem]))).mono ?_; rintro e_ w21 ⟨rfl, hb21⟩; have hz21 := hb21.size; (try simp only [World.size_alloc, World.size_drew, size_set] at hz21); have BB := Lib.hid ((show Below wr.heap.size wr _ from (by first | exact Below.refl _ _ | (go_grown; done) | exact bdrewN (Below.refl _ _) _)).trans (hb21.mono (by first | omega | (simp; done) | (simp; omega)))); clear hb21; (try go_wp2_with fail))
              | (refine stepB rfl _ _ rfl w.heap.size _ O V _ rfl rfl HE.out (HO.out.below (B := wr.heap.size) (by have hb_ := BB.out; first | with_reducible exact hb_ | exact bdrewN hb_ _ | (go_grown; done)) (Nat.le_refl _)) (by (try simp only [List.length_append, List.length_cons, List.length_nil]); omega) (by first | omega | (simp; omega)) ?_; intro A9 c9 w9 T9 F9; have OT := Lib.hid T9; have BF := Lib.hid F9; clear T9 F9))
          all_goals go_wp2
          all_goals go_roundw
          all_goals first | exact ⟨Below.trans (Below.trans (HBr.out.trans (BB.out.mono (show w.heap.size ≤ wr.heap.size by omega))) (by first | exact Below.refl _ _ | (go_grown; done) | exact bdrewN (Below.refl _ _) _)) BF.out, k + 1, by omega, by go_num, OT.out⟩ | (simp [intOf]; omega)
        · have hkp : (0 : Int) < (k : Int) := by omega
          have HE := Lib.hid (st_next (by omega) HK.out)
          obtain ⟨V, hV⟩ : ∃ V, V = stW ⟨a, b, d, e⟩ := ⟨_, rfl⟩
          rw [← hV] at LW HE CJ; clear hV hs4
          obtain ⟨O, hO⟩ : ∃ O, O = stJ xs k := ⟨_, rfl⟩
          rw [← hO] at lO HE HO ⊢; clear hO
          clear hk0
          obtain ⟨A7, c7, e7, -, hor⟩ := id HO.out
          simp only [Value.slice.injEq] at e7; obtain ⟨rfl, -, rfl⟩ := e7
          have HOR := Lib.hid hor; clear hor
          go_upto_region 9 with (at_builtin; refine app1 rfl _ _ 45 rfl w.heap.size 5 (.int .u8 0) 1 Tryd.underlying45 infoU8 rfl (.int .u8 59) rfl _ _ _ rfl _ rfl (owns_below (B := wr.heap.size) HOR.out (by first | (go_grown; done) | exact Below.refl _ _) (Nat.le_refl _)) ?_ ?_ ?_ ?_ ?_; (focus (simp [*, go_sem]; done)); (focus (unfold maxLen; omega)); (focus omega); (focus (first | omega | (simp; omega))); intro v6 w6 hown6 hb6)
          have H6 := Lib.hid (OwnB.next (L' := O ++ [59]) (M := [59]) rfl hown6 (by simp))
          have BR6 := Lib.hid (HBr.out.trans (Below.trans (show Below w.heap.size wr _ from (by first | exact Below.refl _ _ | (go_grown; done))) hb6))
          obtain ⟨A6, c6, rfl, -, -⟩ := id H6.out
          have tr6 := bold BR6.out
          have z6 := BR6.out.size
          have c0 := (tr6 _ (off0 + k * 4) hb0).trans ((bold HBr.out _ _ hb0).symm.trans c0)
          have c1 := (tr6 _ (off0 + k * 4 + 1) hb0).trans ((bold HBr.out _ _ hb0).symm.trans c1)
          have c2 := (tr6 _ (off0 + k * 4 + 2) hb0).trans ((bold HBr.out _ _ hb0).symm.trans c2)
          have c3 := (tr6 _ (off0 + k * 4 + 3) hb0).trans ((bold HBr.out _ _ hb0).symm.trans c3)
          have hb1 : b0 < w6.heap.size := by omega
          clear hown6 hb6 HOR tr6
          have H7 := Lib.hid (show OwnB w6 w.heap.size (.slice A6 (O.length + 1) c6) (O ++ [59]) by have q := H6.out; rw [List.length_append] at q; exact q)
          go_region_law (first
              | (go_simp; go_at_call 56; refine (CJ.out _ _ (four_at (by first | omega | (simp; done) | (simp; omega)) (by simp [*, go_sem]) (by simp [*, go_sem]) (by simp [*, go_sem]) (by simp [*, go_sem]))).mono ?_; rintro e_ w21 ⟨rfl, hb21⟩; have hz21 := hb21.size; (try simp only [World.size_alloc, World.size_drew, size_set] at hz21); have BB := Lib.hid ((show Below w6.heap.size w6 _ from (by first | exact Below.refl _ _ | (go_grown; done) | exact bdrewN (Below.refl _ _) _)).trans (hb21.mono (by first | omega | (simp; done) | (simp; omega)))); clear hb21; (try go_wp2_with fail))
              | (refine stepB rfl _ _ rfl w.heap.size _ (O ++ [59]) V _ rfl rfl HE.out (H7.out.below (B := w6.heap.size) (by have hb_ := BB.out; first | with_reducible exact hb_ | exact bdrewN hb_ _ | (go_grown; done)) (Nat.le_refl _)) (by (try simp only [List.length_append, List.length_cons, List.length_nil]); omega) (by first | omega | (simp; omega)) ?_; intro A9 c9 w9 T9 F9; have OT := Lib.hid T9; have BF := Lib.hid F9; clear T9 F9))
          all_goals go_wp2
          all_goals go_roundw
          all_goals first | exact ⟨Below.trans (Below.trans (BR6.out.trans (BB.out.mono (show w.heap.size ≤ w6.heap.size by omega))) (by first | exact Below.refl _ _ | (go_grown; done) | exact bdrewN (Below.refl _ _) _)) BF.out, k + 1, by omega, by go_num, OT.out⟩ | (simp [intOf]; omega)
      · obtain rfl : k = xs.length := by omega
        have hcv := HO.out.str
        go_wp2
        go_ret
        exact ⟨congrArg (fun l => Ending.returned (strL l)) HS.out.symm, HBr.out⟩
  · have HS := Lib.hid (show stS xs = [] by unfold stS; rw [if_neg hv])
    go_enter Tryd.func15, Tryd.ntmps15
    go_wp2_with (go_at_call 55; refine (specAreSoundings_any _ _ _ _ HX.out).mono ?_; rintro e w1 ⟨rfl, hb1⟩; obtain ⟨B1, hz1, q1, s1, t1, x1, y1, z1⟩ := bkeep (w := w) [] (by first | (simp; done) | (simp; omega)) (by first | (go_grown; done) | exact bdrewN (by go_grown) _) hb1; (try simp at hz1); clear hb1)
    go_ret
    exact ⟨congrArg (fun l => Ending.returned (strL l)) HS.out.symm, B1⟩
end Go.Proofs.YtebdokpokbcgjaaDoor
