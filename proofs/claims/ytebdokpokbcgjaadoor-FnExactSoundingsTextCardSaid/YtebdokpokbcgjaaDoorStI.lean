/- SoundingsText, by the program. -/
import Derived.Test.YtebdokpokbcgjaaDoorSt0
import Derived.BigRegion
import Derived.BigQuiet
import Derived.Deep.DeepCutAuto
namespace Go.Proofs.YtebdokpokbcgjaaDoor
set_option linter.unusedSimpArgs false
set_option linter.unusedVariables false
open Go.RowKit

set_option maxRecDepth 20000 in
set_option maxHeartbeats 4000000 in
theorem implSoundingsText_any (A : Option Addr) (c : Nat) (xs : List Snd) (w : World) (ht : TabW w) (hx : SndsAt w A c xs) :
    Calls Tryd.prog 17 #[.slice A xs.length c] w fun e w' => e = .returned (strL (stS xs)) ∧ Below w.heap.size w w' := by
  have hn := Nat.le_trans hx.1 hx.2.1
  have HX := Lib.hid hx; clear hx
  by_cases hv : sndsB xs = true
  · have l2 := st_len hv
    have HS := Lib.hid (show stS xs = stJ xs xs.length by unfold stS; rw [if_pos hv])
    have HL := Lib.hid (fun k => stJ_len (k := k) hv)
    go_enter Tryd.func17, Tryd.ntmps17
    go_wp2_with (go_at_call 58; refine (implAreSoundings_any _ _ _ _ HX.out).mono ?_; rintro e w1 ⟨rfl, hb1⟩; obtain ⟨B1, hz1, q1, s1, t1, x1, y1, z1⟩ := bkeep (w := w) [] (by first | (simp; done) | (simp; omega)) (by first | (go_grown; done) | exact bdrewN (by go_grown) _) hb1; (try simp at hz1); clear hb1)
    go_loopw [3, 11] (fun o i wr => Below w.heap.size w wr ∧ ∃ k : Nat, k ≤ xs.length ∧ i = .int .i64 k ∧ OwnT wr w.heap.size o ((xs.take k).map stW)) (fun _ i _ => xs.length - (intOf i).toNat)
    case atStart => exact ⟨B1, 0, by omega, rfl, OwnT.none_ _ _⟩
    case round =>
      obtain ⟨Br, k, hk, rfl, hown⟩ := hrel
      obtain ⟨A', c', rfl, hc', -⟩ := id hown
      have hln : ((xs.take k).map stW).length = k := by rw [List.length_map, List.length_take]; omega
      rw [hln] at hown ⊢
      have sr := Br.size
      have TB := Lib.hid (ht.below Br (Nat.le_refl _))
      have HBr := Lib.hid Br; clear Br
      have HO := Lib.hid hown; clear hown
      have HLN := Lib.hid hln; clear hln
      by_cases hlt : k < xs.length
      · obtain ⟨b0, off0, a, b, d, e, rfl, hb0, hxk, p0, p1, p2, p3⟩ := HX.out.at_ hlt
        have BD := st_bd hv hxk
        have F4 := Lib.hid (four_bd BD)
        have LW := stW_len (s := ⟨a, b, d, e⟩) BD
        have HK := Lib.hid hxk; clear hxk
        have tr := bold HBr.out
        have c0 := (tr _ _ hb0).trans p0
        have c1 := (tr _ _ hb0).trans p1
        have c2 := (tr _ _ hb0).trans p2
        have c3 := (tr _ _ hb0).trans p3
        clear p0 p1 p2 p3 tr BD
        have kk0 : (0 : Int) ≤ k := by omega
        have kk1 : (k : Int) < xs.length := by omega
        have hb1 : b0 < wr.heap.size := by omega
        have hs4 : Lib.join ([a, b, d, e].map Lib.itoa) [32] = stW ⟨a, b, d, e⟩ := rfl
        have CJ := Lib.hid (show ∀ (W : World) (g : Nat), Below wr.heap.size wr W → IntsAt W (some ⟨g, 0, none⟩) 4 [a, b, d, e] → Calls Tryd.prog 59 #[.slice (some ⟨g, 0, none⟩) 4 4, strL [32]] W fun e_ w' => e_ = .returned (strL (stW ⟨a, b, d, e⟩)) ∧ Below W.heap.size W w' from fun W g hW h => implJoin_any _ _ [a, b, d, e] [32] W (TB.out.below hW (Nat.le_refl _)) h (by simp) (by simp) (by simp) F4.out)
        have HE := Lib.hid (st_map HK.out)
        obtain ⟨L0, hL0⟩ : ∃ L0, L0 = (xs.take k).map stW := ⟨_, rfl⟩
        rw [← hL0] at HO HLN HE; clear hL0
        obtain ⟨V, hV⟩ : ∃ V, V = stW ⟨a, b, d, e⟩ := ⟨_, rfl⟩
        rw [← hV] at LW HE CJ; clear hV hs4
        go_wp2_with (first
          | (go_at_call 59; refine (CJ.out _ _ (by first | exact Below.refl _ _ | (go_grown; done)) (four_at (by first | omega | (simp; done) | (simp; omega)) (by simp [*, go_sem]) (by simp [*, go_sem]) (by simp [*, go_sem]) (by simp [*, go_sem]))).mono ?_; rintro e_ w21 ⟨rfl, hb21⟩; have hz21 := hb21.size; (try simp only [World.size_alloc, World.size_drew, size_set] at hz21); have BB := Lib.hid ((show Below wr.heap.size wr _ from (by first | exact Below.refl _ _ | (go_grown; done) | exact bdrewN (Below.refl _ _) _)).trans (hb21.mono (by first | omega | (simp; done) | (simp; omega)))); clear hb21)
          | (at_builtin; refine listT rfl _ _ rfl w.heap.size _ L0 V _ rfl rfl ?_ (HO.out.below (B := wr.heap.size) (by have hb_ := BB.out; first | with_reducible exact hb_ | exact bdrewN hb_ _ | (go_grown; done)) (Nat.le_refl _)) (by rw [HLN.out]; omega) (by first | omega | (simp; omega)) ?_; (focus (simp [*, go_sem]; done)); intro A9 c9 w9 T9 F9; have OT := Lib.hid T9; have BF := Lib.hid F9; clear T9 F9))
        go_roundw
        all_goals first | exact ⟨Below.trans (Below.trans (HBr.out.trans (BB.out.mono (show w.heap.size ≤ wr.heap.size by omega))) (by first | exact Below.refl _ _ | (go_grown; done) | exact bdrewN (Below.refl _ _) _)) BF.out, k + 1, by omega, by go_num, by have q := OT.out; rw [← HE.out] at q; exact q⟩ | (simp [intOf]; omega)
      · obtain rfl : k = xs.length := by omega
        by_cases h0 : xs = []
        · subst h0
          go_wp2_with (go_at_call 53; refine (Tryd.strings_Join_none _ _ _ _).mono ?_; rintro e_ w5 ⟨rfl, rfl⟩)
          go_ret
          exact ⟨congrArg (fun l => Ending.returned (strL l)) HS.out.symm, HBr.out⟩
        · have hp : 0 < xs.length := List.length_pos_iff.2 h0
          have hj : Lib.join ((xs.take xs.length).map stW) [59] = stJ xs xs.length := rfl
          have hll := HL.out xs.length
          go_wp2_with (go_at_call 53; refine (join_any _ _ _ _ _ _ [59] HO.out (by rw [HLN.out]; omega) (by rw [HLN.out]; omega) (by rw [hj]; omega)).mono ?_; rintro e_ w5 ⟨rfl, hb5⟩)
          go_ret
          exact ⟨congrArg (fun l => Ending.returned (strL l)) (show Lib.join (xs.map stW) [59] = stS xs by rw [HS.out]; unfold stJ; rw [List.take_length]), HBr.out.trans (hb5.mono (by omega))⟩
  · have HS := Lib.hid (show stS xs = [] by unfold stS; rw [if_neg hv])
    go_enter Tryd.func17, Tryd.ntmps17
    go_wp2_with (go_at_call 58; refine (implAreSoundings_any _ _ _ _ HX.out).mono ?_; rintro e w1 ⟨rfl, hb1⟩; obtain ⟨B1, hz1, q1, s1, t1, x1, y1, z1⟩ := bkeep (w := w) [] (by first | (simp; done) | (simp; omega)) (by first | (go_grown; done) | exact bdrewN (by go_grown) _) hb1; (try simp at hz1); clear hb1)
    go_ret
    exact ⟨congrArg (fun l => Ending.returned (strL l)) HS.out.symm, B1⟩
end Go.Proofs.YtebdokpokbcgjaaDoor
