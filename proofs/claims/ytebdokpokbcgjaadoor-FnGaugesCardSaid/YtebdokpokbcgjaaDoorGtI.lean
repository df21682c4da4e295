/- GaugeText, by the program. -/
import Derived.Test.YtebdokpokbcgjaaDoorGtS
namespace Go.Proofs.YtebdokpokbcgjaaDoor
set_option linter.unusedSimpArgs false
set_option linter.unusedVariables false
open Go.RowKit

set_option maxRecDepth 20000 in
set_option maxHeartbeats 4000000 in
theorem implGaugeText_any (A1 A2 : Option Addr) (c1 c2 : Nat) (ts ls : List Int) (w : World) (ht : TabW w) (h : ProfAt w A1 c1 A2 c2 ts ls) :
    Calls Tryd.prog 12 #[profV A1 ts.length c1 A2 ls.length c2] w fun e w' => e = .returned (strL (gtS ts ls)) ∧ Below w.heap.size w w' := by
  have hn1 := Nat.le_trans h.1.1 h.1.2.1
  have hn2 := Nat.le_trans h.2.1 h.2.2.1
  have H := Lib.hid h; clear h
  by_cases hp : gauB ts ls = true
  · obtain ⟨l1, l2, l3', gt, -, gv⟩ := gau_is hp
    have GI := Lib.hid (gau_is hp)
    have l3 : ls.length ≤ ts.length := by omega
    have l4 : ts.length ≤ ls.length := by omega
    clear l3'
    have GT := Lib.hid gt; have GV := Lib.hid gv; clear gt gv
    have HS := Lib.hid (show gtS ts ls = Lib.join (gtL ts ls ts.length) [32] by unfold gtS; rw [if_pos hp])
    go_enter Tryd.func12, Tryd.ntmps12
    go_wp2_with (go_at_call 33; refine (implIsGauge_any _ _ _ _ _ _ _ ⟨(H.out.1.below (B := w.heap.size) (by first | exact Below.refl _ _ | (go_grown; done) | exact bdrewN (by go_grown) _) (Nat.le_refl _)), (H.out.2.below (B := w.heap.size) (by first | exact Below.refl _ _ | (go_grown; done) | exact bdrewN (by go_grown) _) (Nat.le_refl _))⟩).mono ?_; rintro e w1 ⟨rfl, hb1⟩; obtain ⟨B1, hz1, q1, s1, t1, x1, y1, z1⟩ := bkeep (w := w) [w.heap.size] (by first | (simp; done) | (simp; omega)) (by first | (go_grown; done) | exact bdrewN (by go_grown) _) hb1; (try simp at hz1); clear hb1)
    have e0 : w1.cell? ⟨w.heap.size, 0, none⟩ = some (.slice A1 ts.length c1) := (q1 w.heap.size 0 (by simp)).trans (by simp [*, go_sem])
    have e1 : w1.cell? ⟨w.heap.size, 1, none⟩ = some (.slice A2 ls.length c2) := (q1 w.heap.size 1 (by simp)).trans (by simp [*, go_sem])
    have hz : w.heap.size < w1.heap.size := by omega
    clear q1 s1 t1 x1 y1 z1
    go_loopw [3, 12] (fun o i wr => Below (w.heap.size + 1) w1 wr ∧ ∃ k : Nat, k ≤ ts.length ∧ i = .int .i64 k ∧ OwnT wr (w.heap.size + 1) o (gtL ts ls k)) (fun _ i _ => ts.length - (intOf i).toNat)
    case atStart => exact ⟨Below.refl _ _, 0, by omega, rfl, OwnT.none_ _ _⟩
    case round =>
      obtain ⟨Br, k, hk, rfl, hown⟩ := hrel
      obtain ⟨A', c', rfl, hc', -⟩ := id hown
      rw [gtL_len] at hown ⊢
      have sr := Br.size
      have g0 := (bAt Br (b := w.heap.size) (o := 0) (by omega)).trans e0
      have g1 := (bAt Br (b := w.heap.size) (o := 1) (by omega)).trans e1
      have HP := Lib.hid (H.out.below (B1.trans (Br.mono (by omega))) (Nat.le_refl _))
      have HBr := Lib.hid Br
      have HO := Lib.hid hown; clear hown
      have TB := Lib.hid (ht.below (B1.trans (Br.mono (by omega))) (Nat.le_refl _))
      by_cases hlt : k < ts.length
      · obtain ⟨b1, o1, x, rfl, hb1, hx, cx⟩ := HP.out.1.at_ hlt
        obtain ⟨b2, o2, y, rfl, hb2, hy, cy⟩ := HP.out.2.at_ (show k < ls.length by omega)
        have bx := GT.out _ _ hx; have bY := GV.out _ _ hy
        have HX := Lib.hid hx; have HY := Lib.hid hy; clear hx hy
        have kk0 : (0 : Int) ≤ k := by omega
        have kk1 : (k : Int) < ts.length := by omega
        have kk2 : (k : Int) < ls.length := by omega
        have sl : w.heap.size < wr.heap.size := by omega
        have lX := itoa_len (n := x) (by omega) (by omega); have lY := itoa_len (n := y) (by omega) (by omega)
        have HW := Lib.hid (gtL_next HX.out HY.out)
        obtain ⟨TX, hTX⟩ : ∃ O, O = Lib.itoa x := ⟨_, rfl⟩
        obtain ⟨TY, hTY⟩ : ∃ O, O = Lib.itoa y := ⟨_, rfl⟩
        have HE := Lib.hid (show gtW x y = TX ++ [64] ++ TY by unfold gtW; rw [hTX, hTY])
        have CX := Lib.hid (show ∀ W, Below wr.heap.size wr W → Calls Tryd.prog 52 #[.int .i64 x] W fun e_ w' => e_ = .returned (strL TX) ∧ Below W.heap.size W w' from fun W hW => by rw [hTX]; exact decimal_any x W (TB.out.below hW (Nat.le_refl _)) (by omega) (by omega))
        have CY := Lib.hid (show ∀ W, Below wr.heap.size wr W → Calls Tryd.prog 52 #[.int .i64 y] W fun e_ w' => e_ = .returned (strL TY) ∧ Below W.heap.size W w' from fun W hW => by rw [hTY]; exact decimal_any y W (TB.out.below hW (Nat.le_refl _)) (by omega) (by omega))
        rw [← hTX] at lX; rw [← hTY] at lY; clear hTX hTY
        have z1_ : (9223372036854775807 < TX.length + 1) = False := eq_false (by omega)
        have z2_ : (9223372036854775807 < TX.length + 1 + TY.length) = False := eq_false (by omega)
        have CL := Lib.hid (gtL_len ts ls k)
        have CT := Lib.hid (str_cat2 TX TY)
        go_wp2_with fail
        go_region_law (first
            | (refine stepT rfl _ _ rfl (w.heap.size + 1) _ (gtL ts ls k) (TX ++ [64] ++ TY) _ rfl rfl ?_ (HO.out.below (B := wr.heap.size) (by have hb_ := BB.out; first | with_reducible exact hb_ | exact bdrewN hb_ _ | (go_grown; done)) (Nat.le_refl _)) (by rw [CL.out]; omega) (by first | omega | (simp; omega)) ?_; (focus (rw [← CT.out]; simp [*, go_sem]; done)); intro A6 c6 w6 T6 F6; have OT := Lib.hid T6; have BF := Lib.hid F6; clear T6 F6)
            | (go_simp; go_at_call 52; refine (CX.out _ (by first | exact Below.refl _ _ | (go_grown; done) | exact bdrewN (Below.refl _ _) _)).mono ?_; rintro e_ w21 ⟨rfl, hb21⟩; obtain ⟨hc21, hf21⟩ := bcellW hb21; have hz21 := hb21.size; (try simp only [World.size_alloc, World.size_drew, size_set] at hz21); (try simp only [World.size_alloc, World.size_drew, size_set] at hc21); (try simp only [World.size_alloc, World.size_drew, size_set] at hf21); have ly21_0 : w.heap.size < w21.heap.size := (by omega); have ly21_1 : b1 < w21.heap.size := (by omega); have ly21_2 : b2 < w21.heap.size := (by omega); have BB := Lib.hid ((show Below wr.heap.size wr _ from (by first | exact Below.refl _ _ | (go_grown; done) | exact bdrewN (Below.refl _ _) _)).trans (hb21.mono (by first | omega | (simp; done) | (simp; omega)))); clear hb21; (try go_wp2_with fail))
            | (go_simp; go_at_call 52; refine (CY.out _ (by have hb_ := BB.out; first | with_reducible exact hb_ | exact bdrewN hb_ _ | (go_grown; done))).mono ?_; rintro e_ w22 ⟨rfl, hb22⟩; obtain ⟨hc22, hf22⟩ := bcellW hb22; have hz22 := hb22.size; (try simp only [World.size_alloc, World.size_drew, size_set] at hz22); (try simp only [World.size_alloc, World.size_drew, size_set] at hc22); (try simp only [World.size_alloc, World.size_drew, size_set] at hf22); have ly22_0 : w.heap.size < w22.heap.size := (by omega); have ly22_1 : b1 < w22.heap.size := (by omega); have ly22_2 : b2 < w22.heap.size := (by omega); have BB := Lib.hid ((BB.out.trans (show Below wr.heap.size w21 _ from Below.mono (B := w21.heap.size) (by first | exact Below.refl _ _ | (go_grown; done) | exact bdrewN (Below.refl _ _) _) (by omega))).trans (hb22.mono (by first | omega | (simp; done) | (simp; omega)))); clear hb22; (try go_wp2_with fail)))
        all_goals go_wp2
        all_goals go_roundw
        all_goals first | exact ⟨Below.trans (Below.trans (HBr.out.trans (BB.out.mono (show w.heap.size + 1 ≤ wr.heap.size by omega))) (by first | exact Below.refl _ _ | (go_grown; done) | exact bdrewN (Below.refl _ _) _)) BF.out, k + 1, by omega, by go_num, by have q := OT.out; rw [← HE.out, ← HW.out] at q; exact q⟩ | (simp [intOf]; omega)
      · obtain rfl : k = ts.length := by omega
        go_wp2_with (go_at_call 53; refine (join_any _ _ _ _ _ _ [32] HO.out (by rw [gtL_len]; omega) (by rw [gtL_len]; omega) (by have := gtJ_len GI.out (Nat.le_refl _); omega)).mono ?_; rintro e_ w5 ⟨rfl, hb5⟩)
        go_ret
        exact ⟨congrArg (fun l => Ending.returned (strL l)) HS.out.symm, (B1.trans (HBr.out.mono (by omega))).trans (hb5.mono (by omega))⟩
  · have HS := Lib.hid (show gtS ts ls = [] by unfold gtS; rw [if_neg hp])
    go_enter Tryd.func12, Tryd.ntmps12
    go_wp2_with (go_at_call 33; refine (implIsGauge_any _ _ _ _ _ _ _ ⟨(H.out.1.below (B := w.heap.size) (by first | exact Below.refl _ _ | (go_grown; done) | exact bdrewN (by go_grown) _) (Nat.le_refl _)), (H.out.2.below (B := w.heap.size) (by first | exact Below.refl _ _ | (go_grown; done) | exact bdrewN (by go_grown) _) (Nat.le_refl _))⟩).mono ?_; rintro e w1 ⟨rfl, hb1⟩; obtain ⟨B1, hz1, q1, s1, t1, x1, y1, z1⟩ := bkeep (w := w) [w.heap.size] (by first | (simp; done) | (simp; omega)) (by first | (go_grown; done) | exact bdrewN (by go_grown) _) hb1; (try simp at hz1); clear hb1)
    go_ret
    exact ⟨congrArg (fun l => Ending.returned (strL l)) HS.out.symm, B1⟩
end Go.Proofs.YtebdokpokbcgjaaDoor
