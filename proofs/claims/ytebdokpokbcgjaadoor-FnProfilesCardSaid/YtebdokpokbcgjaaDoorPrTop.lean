/- The law of FnProfiles: a profile is recovered from its text, and a cut one has the beginning of its knots. -/
import Derived.Test.YtebdokpokbcgjaaDoorPrA
import Derived.Test.YtebdokpokbcgjaaDoorPrB
import Derived.Test.YtebdokpokbcgjaaDoorCutP2
import Derived.Test.YtebdokpokbcgjaaDoorBig
import Derived.Test.YtebdokpokbcgjaaDoorLike
import Derived.Deep.RegionHeld3
import Derived.BigRegion
namespace Go.Proofs.YtebdokpokbcgjaaDoor
set_option linter.unusedSimpArgs false
set_option linter.unusedVariables false
open Go.RowKit

theorem genP {P S : World → Prop} {w0 : World} (h0 : S w0) (h : ∀ w, S w → P w) : P w0 := h w0 h0
theorem cut_is {ds ss : List Int} {k : Int} (h : ctC ds ss k = 0) : profB (ctD ds ss k) (ctS ds ss k) = true ∧ ctD ds ss k = ds.take (k.toNat + 1) ∧ 0 ≤ k ∧ k + 1 ≤ ds.length ∧ (ds.take (k.toNat + 1)).length = k.toNat + 1 ∧ ds.length ≤ 12 := by
  by_cases h0 : knotE ds ss k 0 = 0
  · obtain ⟨hv, k0, k1⟩ := knot_ok h0
    obtain ⟨l1, l2, l3, l4⟩ := prof_len hv
    have hk : k ≠ 0 := fun e => by subst e; have := (ct_zero h0).1; omega
    obtain ⟨j, rfl⟩ := Int.eq_ofNat_of_zero_le k0
    have hj : j ≠ 0 := by omega
    obtain ⟨-, e1, e2⟩ := ct_ok h0 hj
    rw [e1, e2]
    refine ⟨?_, by simp, by omega, by omega, by simp; omega, l2⟩
    have p := pro_is hv
    have hr : risB ds 1000001 = true := by simp only [profB, Bool.and_eq_true] at hv; exact hv.1.1.2
    have h00 : ds[0]? = some 0 := by simp only [profB, Bool.and_eq_true, decide_eq_true_eq] at hv; exact hv.1.2
    have hall : ss.all (inB · 1300000 1700000) = true := by simp only [profB, Bool.and_eq_true] at hv; exact hv.2
    have hlt : (ds.take (j + 1)).length = j + 1 := by rw [List.length_take]; omega
    have hls : (ss.take (j + 1)).length = j + 1 := by rw [List.length_take]; omega
    have hrt : risB (ds.take (j + 1)) 1000001 = true := by
      apply ris_done
      intro i hi
      rw [hlt] at hi
      obtain ⟨x, hx⟩ : ∃ x, ds[i]? = some x := ⟨_, List.getElem?_eq_getElem (by omega)⟩
      have hx' : (ds.take (j + 1))[i]? = some x := by rw [List.getElem?_take_of_lt (by omega)]; exact hx
      have hb := ris_in hr hx
      rcases i with _ | i
      · rw [okAt_zero hx']; simp; omega
      · obtain ⟨y, hy⟩ : ∃ y, ds[i]? = some y := ⟨_, List.getElem?_eq_getElem (by omega)⟩
        have hy' : (ds.take (j + 1))[i]? = some y := by rw [List.getElem?_take_of_lt (by omega)]; exact hy
        have := ris_lt hr hy hx
        rw [okAt_succ hx' hy']; simp; omega
    have h0t : (ds.take (j + 1))[0]? = some 0 := by rw [List.getElem?_take_of_lt (by omega)]; exact h00
    have hat : (ss.take (j + 1)).all (inB · 1300000 1700000) = true := List.all_eq_true.2 fun x hx => List.all_eq_true.1 hall x (List.mem_of_mem_take hx)
    simp only [profB, Bool.and_eq_true, decide_eq_true_eq, hlt, hls, hrt, hat, h0t, and_true]
    omega
  · obtain ⟨e0, -, -⟩ := ct_bad h0
    rw [e0] at h
    exact absurd h h0

set_option maxRecDepth 100000 in
set_option maxHeartbeats 8000000 in
theorem lawProfiles_any (A : Option Addr) (c : Nat) (xs : List Int) (w : World) (ht : RdW w) (h : BytesAt w A c xs) :
    Calls Tryd.prog 8 #[.slice A xs.length c] w fun e w' => e = .returned (.bool true) ∧ Below w.heap.size w w' := by
  have hn := Nat.le_trans h.1 h.2.1
  have H := Lib.hid h; have TB := Lib.hid ht; clear h ht
  by_cases hbig : (4096 : Int) < xs.length
  · go_enter Tryd.func8, Tryd.ntmps8
    go_wp2_with (go_at_call 27; refine (big_any _ _ _ _ hn).mono ?_; rintro e w' ⟨rfl, rfl⟩)
    go_ret
    exact ⟨rfl, Below.refl _ _⟩
  · go_enter Tryd.func8, Tryd.ntmps8
    go_wp2_with (go_at_call 27; refine (big_any _ _ _ _ hn).mono ?_; rintro e w' ⟨rfl, rfl⟩)
    refine (drawProfileText_any A c xs _ H.out).mono ?_
    rintro e w3 ⟨⟨A1, c1, A2, c2, ts, ls, rfl, p1⟩, hb3⟩
    have P := Lib.hid p1.at
    have HX := Lib.hid (H.out.below hb3 (Nat.le_refl _))
    have TB := Lib.hid (TB.out.below hb3 (Nat.le_refl _))
    have B3 := Lib.hid hb3; clear p1 hb3 H
    by_cases hp : profB ts ls = true
    · obtain ⟨t1, t2, t3⟩ := rp_text hp
      have hne := pxS_ne hp
      have hlen := pxS_len ts ls
      obtain ⟨T, hT⟩ : ∃ T, T = pxS ts ls := ⟨_, rfl⟩
      rw [← hT] at t1 t2 t3 hne hlen
      have GI := Lib.hid (show ∀ W B1 d1 B2 d2, TabW W → ProfAt W B1 d1 B2 d2 ts ls → Calls Tryd.prog 35 #[profV B1 ts.length d1 B2 ls.length d2] W fun e w' => e = .returned (strL T) ∧ Below W.heap.size W w' from fun W B1 d1 B2 d2 ht h => by have q := implProfileText_any B1 B2 d1 d2 ts ls W ht h; rw [← hT] at q; exact q)
      have GS := Lib.hid (show ∀ W B1 d1 B2 d2, ProfAt W B1 d1 B2 d2 ts ls → Calls Tryd.prog 42 #[profV B1 ts.length d1 B2 ls.length d2] W fun e w' => e = .returned (strL T) ∧ Below W.heap.size W w' from fun W B1 d1 B2 d2 h => by have q := specProfileText_any B1 B2 d1 d2 ts ls W h; rw [← hT] at q; exact q)
      have RT := Lib.hid (show ∀ W, RdW W → Calls Tryd.prog 36 #[strL T] W fun e w' => (∃ B1 d1 B2 d2, e = .returned (.tuple #[profV B1 (List.length ts) d1 B2 (List.length ls) d2, .bool true]) ∧ ResP w' W.heap.size w'.heap.size B1 d1 B2 d2 ts ls) ∧ Below W.heap.size W w' from fun W ht => by have q := implReadProfile_any T W (by omega) ht; rw [t1, t2, t3] at q; exact q)
      have II := Lib.hid (show ∀ W B1 d1 B2 d2, ProfAt W B1 d1 B2 d2 ts ls → Calls Tryd.prog 43 #[profV B1 ts.length d1 B2 ls.length d2] W fun e w' => e = .returned (.bool true) ∧ Below W.heap.size W w' from fun W B1 d1 B2 d2 h => by have q := implIsProfile_any B1 B2 d1 d2 ts ls W h.1 h.2; rw [hp] at q; exact q)
      have IS := Lib.hid (show ∀ W B1 d1 B2 d2, ProfAt W B1 d1 B2 d2 ts ls → Calls Tryd.prog 44 #[profV B1 ts.length d1 B2 ls.length d2] W fun e w' => e = .returned (.bool true) ∧ Below W.heap.size W w' from fun W B1 d1 B2 d2 h => by have q := specIsProfile_any B1 B2 d1 d2 ts ls W h.1 h.2; rw [hp] at q; exact q)
      clear hp t1 t2 t3 hT hne hlen
      go_wp2_with fail
      refine (GI.out _ _ _ _ _ ((TB.out.below (B := w3.heap.size) (by first | exact Below.refl _ _ | (go_grown; done) | exact bdrewN (by go_grown) _) (Nat.le_refl _))).tab (P.out.below (B := w3.heap.size) (by first | exact Below.refl _ _ | (go_grown; done) | exact bdrewN (by go_grown) _) (Nat.le_refl _))).mono ?_
      rintro e w4 ⟨rfl, hb4⟩
      have P := Lib.hid (((P.out).below (B := w3.heap.size) (by first | exact Below.refl _ _ | (go_grown; done) | exact bdrewN (by go_grown) _) (Nat.le_refl _)).below hb4 (Nat.le_refl _))
      have HX := Lib.hid (((HX.out).below (B := w3.heap.size) (by first | exact Below.refl _ _ | (go_grown; done) | exact bdrewN (by go_grown) _) (Nat.le_refl _)).below hb4 (Nat.le_refl _))
      have TB := Lib.hid (((TB.out).below (B := w3.heap.size) (by first | exact Below.refl _ _ | (go_grown; done) | exact bdrewN (by go_grown) _) (Nat.le_refl _)).below hb4 (Nat.le_refl _))
      obtain ⟨B4, hz4, q4, s4, t4, x4, y4, z4⟩ := bkeep (w := w3) [w3.heap.size] (by first | (simp; done) | (simp; omega)) (by first | (go_grown; done) | exact bdrewN (by go_grown) _) hb4; (try simp at hz4); clear hb4
      go_wp2_with fail
      refine (RT.out _ (TB.out.below (B := w4.heap.size) (by first | exact Below.refl _ _ | (go_grown; done) | exact bdrewN (by go_grown) _) (Nat.le_refl _))).mono ?_
      rintro e w5 ⟨⟨D5, d5, D5x, d5x, rfl, rr⟩, hb5⟩
      have P := Lib.hid (((P.out).below (B := w4.heap.size) (by first | exact Below.refl _ _ | (go_grown; done) | exact bdrewN (by go_grown) _) (Nat.le_refl _)).below hb5 (Nat.le_refl _))
      have HX := Lib.hid (((HX.out).below (B := w4.heap.size) (by first | exact Below.refl _ _ | (go_grown; done) | exact bdrewN (by go_grown) _) (Nat.le_refl _)).below hb5 (Nat.le_refl _))
      have TB := Lib.hid (((TB.out).below (B := w4.heap.size) (by first | exact Below.refl _ _ | (go_grown; done) | exact bdrewN (by go_grown) _) (Nat.le_refl _)).below hb5 (Nat.le_refl _))
      have X := Lib.hid (rr.at)
      obtain ⟨B5, hz5, q5, s5, t5, x5, y5, z5⟩ := bkeep (w := w3) [w3.heap.size] (by first | (simp; done) | (simp; omega)) (by first | (go_grown; done) | exact bdrewN (by go_grown) _) hb5; (try simp at hz5); clear hb5
      clear rr
      go_wp2_with fail
      refine (drawReadProfile_any A c xs _ (HX.out.below (B := w5.heap.size) (by first | exact Below.refl _ _ | (go_grown; done) | exact bdrewN (by go_grown) _) (Nat.le_refl _))).mono ?_
      rintro e w6 ⟨⟨m, rfl, hm⟩, hb6⟩
      have P := Lib.hid (((P.out).below (B := w5.heap.size) (by first | exact Below.refl _ _ | (go_grown; done) | exact bdrewN (by go_grown) _) (Nat.le_refl _)).below hb6 (Nat.le_refl _))
      have HX := Lib.hid (((HX.out).below (B := w5.heap.size) (by first | exact Below.refl _ _ | (go_grown; done) | exact bdrewN (by go_grown) _) (Nat.le_refl _)).below hb6 (Nat.le_refl _))
      have TB := Lib.hid (((TB.out).below (B := w5.heap.size) (by first | exact Below.refl _ _ | (go_grown; done) | exact bdrewN (by go_grown) _) (Nat.le_refl _)).below hb6 (Nat.le_refl _))
      have X := Lib.hid (((X.out).below (B := w5.heap.size) (by first | exact Below.refl _ _ | (go_grown; done) | exact bdrewN (by go_grown) _) (Nat.le_refl _)).below hb6 (Nat.le_refl _))
      obtain ⟨B6, hz6, q6, s6, t6, x6, y6, z6⟩ := bkeep (w := w3) [w3.heap.size, w5.heap.size] (by first | (simp; done) | (simp; omega)) (by first | (go_grown; done) | exact bdrewN (by go_grown) _) hb6; (try simp at hz6); clear hb6
      go_wp2_with fail
      refine (implReadProfile_any m _ (by omega) (TB.out.below (B := w6.heap.size) (by first | exact Below.refl _ _ | (go_grown; done) | exact bdrewN (by go_grown) _) (Nat.le_refl _))).mono ?_
      rintro e w7 ⟨⟨D7, d7, D7x, d7x, rfl, rr⟩, hb7⟩
      have P := Lib.hid (((P.out).below (B := w6.heap.size) (by first | exact Below.refl _ _ | (go_grown; done) | exact bdrewN (by go_grown) _) (Nat.le_refl _)).below hb7 (Nat.le_refl _))
      have HX := Lib.hid (((HX.out).below (B := w6.heap.size) (by first | exact Below.refl _ _ | (go_grown; done) | exact bdrewN (by go_grown) _) (Nat.le_refl _)).below hb7 (Nat.le_refl _))
      have TB := Lib.hid (((TB.out).below (B := w6.heap.size) (by first | exact Below.refl _ _ | (go_grown; done) | exact bdrewN (by go_grown) _) (Nat.le_refl _)).below hb7 (Nat.le_refl _))
      have X := Lib.hid (((X.out).below (B := w6.heap.size) (by first | exact Below.refl _ _ | (go_grown; done) | exact bdrewN (by go_grown) _) (Nat.le_refl _)).below hb7 (Nat.le_refl _))
      have Y := Lib.hid (rr.at)
      obtain ⟨B7, hz7, q7, s7, t7, x7, y7, z7⟩ := bkeep (w := w3) [w3.heap.size, w5.heap.size] (by first | (simp; done) | (simp; omega)) (by first | (go_grown; done) | exact bdrewN (by go_grown) _) hb7; (try simp at hz7); clear hb7
      clear rr
      go_wp2_with fail
      refine (specReadProfile_any m _ (by omega)).mono ?_
      rintro e w8 ⟨⟨D8, d8, D8x, d8x, rfl, rr⟩, hb8⟩
      have P := Lib.hid (((P.out).below (B := w7.heap.size) (by first | exact Below.refl _ _ | (go_grown; done) | exact bdrewN (by go_grown) _) (Nat.le_refl _)).below hb8 (Nat.le_refl _))
      have HX := Lib.hid (((HX.out).below (B := w7.heap.size) (by first | exact Below.refl _ _ | (go_grown; done) | exact bdrewN (by go_grown) _) (Nat.le_refl _)).below hb8 (Nat.le_refl _))
      have TB := Lib.hid (((TB.out).below (B := w7.heap.size) (by first | exact Below.refl _ _ | (go_grown; done) | exact bdrewN (by go_grown) _) (Nat.le_refl _)).below hb8 (Nat.le_refl _))
      have X := Lib.hid (((X.out).below (B := w7.heap.size) (by first | exact Below.refl _ _ | (go_grown; done) | exact bdrewN (by go_grown) _) (Nat.le_refl _)).below hb8 (Nat.le_refl _))
      have Y := Lib.hid (((Y.out).below (B := w7.heap.size) (by first | exact Below.refl _ _ | (go_grown; done) | exact bdrewN (by go_grown) _) (Nat.le_refl _)).below hb8 (Nat.le_refl _))
      have Z := Lib.hid (rr.at)
      obtain ⟨B8, hz8, q8, s8, t8, x8, y8, z8⟩ := bkeep (w := w3) [w3.heap.size, w5.heap.size, w7.heap.size] (by first | (simp; done) | (simp; omega)) (by first | (go_grown; done) | exact bdrewN (by go_grown) _) hb8; (try simp at hz8); clear hb8
      clear rr
      go_wp2_with fail
      refine (drawCutProfile_any A c xs _ (HX.out.below (B := w8.heap.size) (by first | exact Below.refl _ _ | (go_grown; done) | exact bdrewN (by go_grown) _) (Nat.le_refl _))).mono ?_
      rintro e w9 ⟨⟨Q1, q1_, Q2, q2_, ds, ss, kn, rfl, rr⟩, hb9⟩
      have P := Lib.hid (((P.out).below (B := w8.heap.size) (by first | exact Below.refl _ _ | (go_grown; done) | exact bdrewN (by go_grown) _) (Nat.le_refl _)).below hb9 (Nat.le_refl _))
      have HX := Lib.hid (((HX.out).below (B := w8.heap.size) (by first | exact Below.refl _ _ | (go_grown; done) | exact bdrewN (by go_grown) _) (Nat.le_refl _)).below hb9 (Nat.le_refl _))
      have X := Lib.hid (((X.out).below (B := w8.heap.size) (by first | exact Below.refl _ _ | (go_grown; done) | exact bdrewN (by go_grown) _) (Nat.le_refl _)).below hb9 (Nat.le_refl _))
      have Y := Lib.hid (((Y.out).below (B := w8.heap.size) (by first | exact Below.refl _ _ | (go_grown; done) | exact bdrewN (by go_grown) _) (Nat.le_refl _)).below hb9 (Nat.le_refl _))
      have Z := Lib.hid (((Z.out).below (B := w8.heap.size) (by first | exact Below.refl _ _ | (go_grown; done) | exact bdrewN (by go_grown) _) (Nat.le_refl _)).below hb9 (Nat.le_refl _))
      have Q := Lib.hid (rr.at)
      obtain ⟨B9, hz9, q9, s9, t9, x9, y9, z9⟩ := bkeep (w := w3) [w3.heap.size, w5.heap.size, w7.heap.size, w8.heap.size] (by first | (simp; done) | (simp; omega)) (by first | (go_grown; done) | exact bdrewN (by go_grown) _) hb9; (try simp at hz9); clear hb9
      clear rr
      go_wp2_with fail
      refine (implCutProfile_any _ _ _ _ ds ss kn _ (Q.out.below (B := w9.heap.size) (by first | exact Below.refl _ _ | (go_grown; done) | exact bdrewN (by go_grown) _) (Nat.le_refl _))).mono ?_
      rintro e w10 ⟨⟨D10, d10, D10x, d10x, rfl, rr⟩, hb10⟩
      have P := Lib.hid (((P.out).below (B := w9.heap.size) (by first | exact Below.refl _ _ | (go_grown; done) | exact bdrewN (by go_grown) _) (Nat.le_refl _)).below hb10 (Nat.le_refl _))
      have X := Lib.hid (((X.out).below (B := w9.heap.size) (by first | exact Below.refl _ _ | (go_grown; done) | exact bdrewN (by go_grown) _) (Nat.le_refl _)).below hb10 (Nat.le_refl _))
      have Y := Lib.hid (((Y.out).below (B := w9.heap.size) (by first | exact Below.refl _ _ | (go_grown; done) | exact bdrewN (by go_grown) _) (Nat.le_refl _)).below hb10 (Nat.le_refl _))
      have Z := Lib.hid (((Z.out).below (B := w9.heap.size) (by first | exact Below.refl _ _ | (go_grown; done) | exact bdrewN (by go_grown) _) (Nat.le_refl _)).below hb10 (Nat.le_refl _))
      have Q := Lib.hid (((Q.out).below (B := w9.heap.size) (by first | exact Below.refl _ _ | (go_grown; done) | exact bdrewN (by go_grown) _) (Nat.le_refl _)).below hb10 (Nat.le_refl _))
      have C := Lib.hid (rr.at)
      obtain ⟨B10, hz10, q10, s10, t10, x10, y10, z10⟩ := bkeep (w := w3) [w3.heap.size, w5.heap.size, w7.heap.size, w8.heap.size, w9.heap.size] (by first | (simp; done) | (simp; omega)) (by first | (go_grown; done) | exact bdrewN (by go_grown) _) hb10; (try simp at hz10); clear hb10
      clear rr
      go_wp2_with fail
      refine (specCutProfile_any _ _ _ _ ds ss kn _ (Q.out.below (B := w10.heap.size) (by first | exact Below.refl _ _ | (go_grown; done) | exact bdrewN (by go_grown) _) (Nat.le_refl _))).mono ?_
      rintro e w11 ⟨⟨D11, d11, D11x, d11x, rfl, rr⟩, hb11⟩
      have P := Lib.hid (((P.out).below (B := w10.heap.size) (by first | exact Below.refl _ _ | (go_grown; done) | exact bdrewN (by go_grown) _) (Nat.le_refl _)).below hb11 (Nat.le_refl _))
      have X := Lib.hid (((X.out).below (B := w10.heap.size) (by first | exact Below.refl _ _ | (go_grown; done) | exact bdrewN (by go_grown) _) (Nat.le_refl _)).below hb11 (Nat.le_refl _))
      have Y := Lib.hid (((Y.out).below (B := w10.heap.size) (by first | exact Below.refl _ _ | (go_grown; done) | exact bdrewN (by go_grown) _) (Nat.le_refl _)).below hb11 (Nat.le_refl _))
      have Z := Lib.hid (((Z.out).below (B := w10.heap.size) (by first | exact Below.refl _ _ | (go_grown; done) | exact bdrewN (by go_grown) _) (Nat.le_refl _)).below hb11 (Nat.le_refl _))
      have Q := Lib.hid (((Q.out).below (B := w10.heap.size) (by first | exact Below.refl _ _ | (go_grown; done) | exact bdrewN (by go_grown) _) (Nat.le_refl _)).below hb11 (Nat.le_refl _))
      have C := Lib.hid (((C.out).below (B := w10.heap.size) (by first | exact Below.refl _ _ | (go_grown; done) | exact bdrewN (by go_grown) _) (Nat.le_refl _)).below hb11 (Nat.le_refl _))
      have M := Lib.hid (rr.at)
      obtain ⟨B11, hz11, q11, s11, t11, x11, y11, z11⟩ := bkeep (w := w3) [w3.heap.size, w5.heap.size, w7.heap.size, w8.heap.size, w9.heap.size, w10.heap.size] (by first | (simp; done) | (simp; omega)) (by first | (go_grown; done) | exact bdrewN (by go_grown) _) hb11; (try simp at hz11); clear hb11
      clear rr
      go_upto_region 12 with fail
      refine genP (S := fun w' => Below w3.heap.size w3 w' ∧ w3.heap.size < w'.heap.size ∧ w5.heap.size < w'.heap.size ∧ w7.heap.size < w'.heap.size ∧ w8.heap.size < w'.heap.size ∧ w9.heap.size < w'.heap.size ∧ w10.heap.size < w'.heap.size ∧ w11.heap.size < w'.heap.size ∧ w'.cell? ⟨w3.heap.size, 0, none⟩ = some (.slice A1 (List.length ts) c1) ∧ w'.cell? ⟨w3.heap.size, 1, none⟩ = some (.slice A2 (List.length ls) c2) ∧ w'.cell? ⟨w5.heap.size, 0, none⟩ = some (.slice D5 (List.length ts) d5) ∧ w'.cell? ⟨w5.heap.size, 1, none⟩ = some (.slice D5x (List.length ls) d5x) ∧ w'.cell? ⟨w7.heap.size, 0, none⟩ = some (.slice D7 (List.length (rpT m)) d7) ∧ w'.cell? ⟨w7.heap.size, 1, none⟩ = some (.slice D7x (List.length (rpL m)) d7x) ∧ w'.cell? ⟨w8.heap.size, 0, none⟩ = some (.slice D8 (List.length (rpT m)) d8) ∧ w'.cell? ⟨w8.heap.size, 1, none⟩ = some (.slice D8x (List.length (rpL m)) d8x) ∧ w'.cell? ⟨w9.heap.size, 0, none⟩ = some (.slice Q1 (List.length ds) q1_) ∧ w'.cell? ⟨w9.heap.size, 1, none⟩ = some (.slice Q2 (List.length ss) q2_) ∧ w'.cell? ⟨w10.heap.size, 0, none⟩ = some (.slice D10 (List.length (ctD ds ss kn)) d10) ∧ w'.cell? ⟨w10.heap.size, 1, none⟩ = some (.slice D10x (List.length (ctS ds ss kn)) d10x) ∧ w'.cell? ⟨w11.heap.size, 0, none⟩ = some (.slice D11 (List.length (ctD ds ss kn)) d11) ∧ w'.cell? ⟨w11.heap.size, 1, none⟩ = some (.slice D11x (List.length (ctS ds ss kn)) d11x) ∧ ProfAt w' A1 c1 A2 c2 ts ls ∧ ProfAt w' D5 d5 D5x d5x ts ls ∧ ProfAt w' D7 d7 D7x d7x (rpT m) (rpL m) ∧ ProfAt w' D8 d8 D8x d8x (rpT m) (rpL m) ∧ ProfAt w' Q1 q1_ Q2 q2_ ds ss ∧ ProfAt w' D10 d10 D10x d10x (ctD ds ss kn) (ctS ds ss kn) ∧ ProfAt w' D11 d11 D11x d11x (ctD ds ss kn) (ctS ds ss kn)) ⟨(by first | exact B11 | (go_grown; done)), by first | omega | (simp; done) | (simp; omega), by first | omega | (simp; done) | (simp; omega), by first | omega | (simp; done) | (simp; omega), by first | omega | (simp; done) | (simp; omega), by first | omega | (simp; done) | (simp; omega), by first | omega | (simp; done) | (simp; omega), by first | omega | (simp; done) | (simp; omega), by simp [*, go_sem], by simp [*, go_sem], by simp [*, go_sem], by simp [*, go_sem], by simp [*, go_sem], by simp [*, go_sem], by simp [*, go_sem], by simp [*, go_sem], by simp [*, go_sem], by simp [*, go_sem], by simp [*, go_sem], by simp [*, go_sem], by simp [*, go_sem], by simp [*, go_sem], (P.out).below (B := w11.heap.size) (by first | exact Below.refl _ _ | (go_grown; done) | exact bdrewN (by go_grown) _) (Nat.le_refl _), (X.out).below (B := w11.heap.size) (by first | exact Below.refl _ _ | (go_grown; done) | exact bdrewN (by go_grown) _) (Nat.le_refl _), (Y.out).below (B := w11.heap.size) (by first | exact Below.refl _ _ | (go_grown; done) | exact bdrewN (by go_grown) _) (Nat.le_refl _), (Z.out).below (B := w11.heap.size) (by first | exact Below.refl _ _ | (go_grown; done) | exact bdrewN (by go_grown) _) (Nat.le_refl _), (Q.out).below (B := w11.heap.size) (by first | exact Below.refl _ _ | (go_grown; done) | exact bdrewN (by go_grown) _) (Nat.le_refl _), (C.out).below (B := w11.heap.size) (by first | exact Below.refl _ _ | (go_grown; done) | exact bdrewN (by go_grown) _) (Nat.le_refl _), (M.out).below (B := w11.heap.size) (by first | exact Below.refl _ _ | (go_grown; done) | exact bdrewN (by go_grown) _) (Nat.le_refl _)⟩ ?_
      clear P X Y Z Q C M
      clear q4 s4 t4 x4 y4 z4 hz4 B4
      clear q5 s5 t5 x5 y5 z5 hz5 B5
      clear q6 s6 t6 x6 y6 z6 hz6 B6
      clear q7 s7 t7 x7 y7 z7 hz7 B7
      clear q8 s8 t8 x8 y8 z8 hz8 B8
      clear q9 s9 t9 x9 y9 z9 hz9 B9
      clear q10 s10 t10 x10 y10 z10 hz10 B10
      clear q11 s11 t11 x11 y11 z11 hz11 B11
      rintro w20 ⟨b20, lb0, lb1, lb2, lb3, lb4, lb5, lb6, k0, k1, k2, k3, k4, k5, k6, k7, k8, k9, k10, k11, k12, k13, rP, rX, rY, rZ, rQ, rC, rM⟩
      have B20 := Lib.hid b20; have P := Lib.hid rP; have X := Lib.hid rX; have Y := Lib.hid rY; have Z := Lib.hid rZ; have Q := Lib.hid rQ; have C := Lib.hid rC; have M := Lib.hid rM; clear b20 rP rX rY rZ rQ rC rM
      have TK0 := Lib.hid True.intro
      have TK1 := Lib.hid True.intro
      have TK2 := Lib.hid True.intro
      have TK3 := Lib.hid True.intro
      have TK4 := Lib.hid True.intro
      have TK5 := Lib.hid True.intro
      have TK6 := Lib.hid True.intro
      go_region_held3 (fun w' => w'.cell? ⟨w3.heap.size, 0, none⟩ = some (.slice A1 (List.length ts) c1) ∧ w'.cell? ⟨w3.heap.size, 1, none⟩ = some (.slice A2 (List.length ls) c2) ∧ w'.cell? ⟨w5.heap.size, 0, none⟩ = some (.slice D5 (List.length ts) d5) ∧ w'.cell? ⟨w5.heap.size, 1, none⟩ = some (.slice D5x (List.length ls) d5x) ∧ w'.cell? ⟨w7.heap.size, 0, none⟩ = some (.slice D7 (List.length (rpT m)) d7) ∧ w'.cell? ⟨w7.heap.size, 1, none⟩ = some (.slice D7x (List.length (rpL m)) d7x) ∧ w'.cell? ⟨w8.heap.size, 0, none⟩ = some (.slice D8 (List.length (rpT m)) d8) ∧ w'.cell? ⟨w8.heap.size, 1, none⟩ = some (.slice D8x (List.length (rpL m)) d8x) ∧ w'.cell? ⟨w9.heap.size, 0, none⟩ = some (.slice Q1 (List.length ds) q1_) ∧ w'.cell? ⟨w9.heap.size, 1, none⟩ = some (.slice Q2 (List.length ss) q2_) ∧ w'.cell? ⟨w10.heap.size, 0, none⟩ = some (.slice D10 (List.length (ctD ds ss kn)) d10) ∧ w'.cell? ⟨w10.heap.size, 1, none⟩ = some (.slice D10x (List.length (ctS ds ss kn)) d10x) ∧ w'.cell? ⟨w11.heap.size, 0, none⟩ = some (.slice D11 (List.length (ctD ds ss kn)) d11) ∧ w'.cell? ⟨w11.heap.size, 1, none⟩ = some (.slice D11x (List.length (ctS ds ss kn)) d11x)) (first | (go_keep; done) | (simp [*, go_sem]; done))
        (first
          | (have m_ := TK0; clear m_ TK0; go_at_call 42; refine (GS.out _ _ _ _ _ (P.out.below (show Below w20.heap.size w20 _ from (by first | exact Below.refl _ _ | (go_grown; done) | exact bdrewN (Below.refl _ _) _ | exact bdrewN (by go_grown) _)) (Nat.le_refl _))).mono ?_; rintro e_ w21 ⟨rfl, hb21⟩; obtain ⟨hc21, hf21⟩ := bcellW hb21; have hz21 := hb21.size; (try simp only [World.size_alloc, World.size_drew, size_set] at hz21); (try simp only [World.size_alloc, World.size_drew, size_set] at hc21); (try simp only [World.size_alloc, World.size_drew, size_set] at hf21); have l21_0 : w3.heap.size < w21.heap.size := (by omega); have l21_1 : w5.heap.size < w21.heap.size := (by omega); have l21_2 : w7.heap.size < w21.heap.size := (by omega); have l21_3 : w8.heap.size < w21.heap.size := (by omega); have l21_4 : w9.heap.size < w21.heap.size := (by omega); have l21_5 : w10.heap.size < w21.heap.size := (by omega); have l21_6 : w11.heap.size < w21.heap.size := (by omega); have zb21 : w20.heap.size ≤ w21.heap.size := (by omega); have BB := Lib.hid ((show Below w20.heap.size w20 _ from (by first | exact Below.refl _ _ | (go_grown; done) | exact bdrewN (Below.refl _ _) _ | exact bdrewN (by go_grown) _)).trans (hb21.mono (by first | omega | (simp; done) | (simp; omega)))); clear hb21)
          | (have m_ := TK1; clear m_ TK1; go_at_call 43; refine (II.out _ _ _ _ _ (P.out.below (BB.out.trans (show Below w20.heap.size w21 _ from Below.mono (B := w21.heap.size) (by first | exact Below.refl _ _ | (go_grown; done) | exact bdrewN (Below.refl _ _) _ | exact bdrewN (by go_grown) _) zb21)) (Nat.le_refl _))).mono ?_; rintro e_ w22 ⟨rfl, hb22⟩; obtain ⟨hc22, hf22⟩ := bcellW hb22; have hz22 := hb22.size; (try simp only [World.size_alloc, World.size_drew, size_set] at hz22); (try simp only [World.size_alloc, World.size_drew, size_set] at hc22); (try simp only [World.size_alloc, World.size_drew, size_set] at hf22); have l22_0 : w3.heap.size < w22.heap.size := (by omega); have l22_1 : w5.heap.size < w22.heap.size := (by omega); have l22_2 : w7.heap.size < w22.heap.size := (by omega); have l22_3 : w8.heap.size < w22.heap.size := (by omega); have l22_4 : w9.heap.size < w22.heap.size := (by omega); have l22_5 : w10.heap.size < w22.heap.size := (by omega); have l22_6 : w11.heap.size < w22.heap.size := (by omega); have zb22 : w20.heap.size ≤ w22.heap.size := (by omega); have BB := Lib.hid ((BB.out.trans (show Below w20.heap.size w21 _ from Below.mono (B := w21.heap.size) (by first | exact Below.refl _ _ | (go_grown; done) | exact bdrewN (Below.refl _ _) _ | exact bdrewN (by go_grown) _) zb21)).trans (hb22.mono (by first | omega | (simp; done) | (simp; omega)))); clear hb22)
          | (have m_ := TK2; clear m_ TK2; go_at_call 43; refine (II.out _ _ _ _ _ (P.out.below (BB.out.trans (show Below w20.heap.size w22 _ from Below.mono (B := w22.heap.size) (by first | exact Below.refl _ _ | (go_grown; done) | exact bdrewN (Below.refl _ _) _ | exact bdrewN (by go_grown) _) zb22)) (Nat.le_refl _))).mono ?_; rintro e_ w23 ⟨rfl, hb23⟩; obtain ⟨hc23, hf23⟩ := bcellW hb23; have hz23 := hb23.size; (try simp only [World.size_alloc, World.size_drew, size_set] at hz23); (try simp only [World.size_alloc, World.size_drew, size_set] at hc23); (try simp only [World.size_alloc, World.size_drew, size_set] at hf23); have l23_0 : w3.heap.size < w23.heap.size := (by omega); have l23_1 : w5.heap.size < w23.heap.size := (by omega); have l23_2 : w7.heap.size < w23.heap.size := (by omega); have l23_3 : w8.heap.size < w23.heap.size := (by omega); have l23_4 : w9.heap.size < w23.heap.size := (by omega); have l23_5 : w10.heap.size < w23.heap.size := (by omega); have l23_6 : w11.heap.size < w23.heap.size := (by omega); have zb23 : w20.heap.size ≤ w23.heap.size := (by omega); have BB := Lib.hid ((BB.out.trans (show Below w20.heap.size w22 _ from Below.mono (B := w22.heap.size) (by first | exact Below.refl _ _ | (go_grown; done) | exact bdrewN (Below.refl _ _) _ | exact bdrewN (by go_grown) _) zb22)).trans (hb23.mono (by first | omega | (simp; done) | (simp; omega)))); clear hb23)
          | (have m_ := TK3; clear m_ TK3; go_at_call 44; refine (IS.out _ _ _ _ _ (P.out.below (BB.out.trans (show Below w20.heap.size w23 _ from Below.mono (B := w23.heap.size) (by first | exact Below.refl _ _ | (go_grown; done) | exact bdrewN (Below.refl _ _) _ | exact bdrewN (by go_grown) _) zb23)) (Nat.le_refl _))).mono ?_; rintro e_ w24 ⟨rfl, hb24⟩; obtain ⟨hc24, hf24⟩ := bcellW hb24; have hz24 := hb24.size; (try simp only [World.size_alloc, World.size_drew, size_set] at hz24); (try simp only [World.size_alloc, World.size_drew, size_set] at hc24); (try simp only [World.size_alloc, World.size_drew, size_set] at hf24); have l24_0 : w3.heap.size < w24.heap.size := (by omega); have l24_1 : w5.heap.size < w24.heap.size := (by omega); have l24_2 : w7.heap.size < w24.heap.size := (by omega); have l24_3 : w8.heap.size < w24.heap.size := (by omega); have l24_4 : w9.heap.size < w24.heap.size := (by omega); have l24_5 : w10.heap.size < w24.heap.size := (by omega); have l24_6 : w11.heap.size < w24.heap.size := (by omega); have zb24 : w20.heap.size ≤ w24.heap.size := (by omega); have BB := Lib.hid ((BB.out.trans (show Below w20.heap.size w23 _ from Below.mono (B := w23.heap.size) (by first | exact Below.refl _ _ | (go_grown; done) | exact bdrewN (Below.refl _ _) _ | exact bdrewN (by go_grown) _) zb23)).trans (hb24.mono (by first | omega | (simp; done) | (simp; omega)))); clear hb24)
          | (have m_ := TK4; clear m_ TK4; go_at_call 45; refine (likeProfiles9_same _ _ _ _ _ _ _ _ _ _ _ (X.out.below (BB.out.trans (show Below w20.heap.size w24 _ from Below.mono (B := w24.heap.size) (by first | exact Below.refl _ _ | (go_grown; done) | exact bdrewN (Below.refl _ _) _ | exact bdrewN (by go_grown) _) zb24)) (Nat.le_refl _)) (P.out.below (BB.out.trans (show Below w20.heap.size w24 _ from Below.mono (B := w24.heap.size) (by first | exact Below.refl _ _ | (go_grown; done) | exact bdrewN (Below.refl _ _) _ | exact bdrewN (by go_grown) _) zb24)) (Nat.le_refl _))).mono ?_; rintro e_ w25 ⟨rfl, hb25⟩; obtain ⟨hc25, hf25⟩ := bcellW hb25; have hz25 := hb25.size; (try simp only [World.size_alloc, World.size_drew, size_set] at hz25); (try simp only [World.size_alloc, World.size_drew, size_set] at hc25); (try simp only [World.size_alloc, World.size_drew, size_set] at hf25); have l25_0 : w3.heap.size < w25.heap.size := (by omega); have l25_1 : w5.heap.size < w25.heap.size := (by omega); have l25_2 : w7.heap.size < w25.heap.size := (by omega); have l25_3 : w8.heap.size < w25.heap.size := (by omega); have l25_4 : w9.heap.size < w25.heap.size := (by omega); have l25_5 : w10.heap.size < w25.heap.size := (by omega); have l25_6 : w11.heap.size < w25.heap.size := (by omega); have zb25 : w20.heap.size ≤ w25.heap.size := (by omega); have BB := Lib.hid ((BB.out.trans (show Below w20.heap.size w24 _ from Below.mono (B := w24.heap.size) (by first | exact Below.refl _ _ | (go_grown; done) | exact bdrewN (Below.refl _ _) _ | exact bdrewN (by go_grown) _) zb24)).trans (hb25.mono (by first | omega | (simp; done) | (simp; omega)))); clear hb25)
          | (have m_ := TK5; clear m_ TK5; go_at_call 45; refine (likeProfiles9_same _ _ _ _ _ _ _ _ _ _ _ (Y.out.below (BB.out.trans (show Below w20.heap.size w25 _ from Below.mono (B := w25.heap.size) (by first | exact Below.refl _ _ | (go_grown; done) | exact bdrewN (Below.refl _ _) _ | exact bdrewN (by go_grown) _) zb25)) (Nat.le_refl _)) (Z.out.below (BB.out.trans (show Below w20.heap.size w25 _ from Below.mono (B := w25.heap.size) (by first | exact Below.refl _ _ | (go_grown; done) | exact bdrewN (Below.refl _ _) _ | exact bdrewN (by go_grown) _) zb25)) (Nat.le_refl _))).mono ?_; rintro e_ w26 ⟨rfl, hb26⟩; obtain ⟨hc26, hf26⟩ := bcellW hb26; have hz26 := hb26.size; (try simp only [World.size_alloc, World.size_drew, size_set] at hz26); (try simp only [World.size_alloc, World.size_drew, size_set] at hc26); (try simp only [World.size_alloc, World.size_drew, size_set] at hf26); have l26_0 : w3.heap.size < w26.heap.size := (by omega); have l26_1 : w5.heap.size < w26.heap.size := (by omega); have l26_2 : w7.heap.size < w26.heap.size := (by omega); have l26_3 : w8.heap.size < w26.heap.size := (by omega); have l26_4 : w9.heap.size < w26.heap.size := (by omega); have l26_5 : w10.heap.size < w26.heap.size := (by omega); have l26_6 : w11.heap.size < w26.heap.size := (by omega); have zb26 : w20.heap.size ≤ w26.heap.size := (by omega); have BB := Lib.hid ((BB.out.trans (show Below w20.heap.size w25 _ from Below.mono (B := w25.heap.size) (by first | exact Below.refl _ _ | (go_grown; done) | exact bdrewN (Below.refl _ _) _ | exact bdrewN (by go_grown) _) zb25)).trans (hb26.mono (by first | omega | (simp; done) | (simp; omega)))); clear hb26)
          | (have m_ := TK6; clear m_ TK6; go_at_call 45; refine (likeProfiles9_same _ _ _ _ _ _ _ _ _ _ _ (C.out.below (BB.out.trans (show Below w20.heap.size w26 _ from Below.mono (B := w26.heap.size) (by first | exact Below.refl _ _ | (go_grown; done) | exact bdrewN (Below.refl _ _) _ | exact bdrewN (by go_grown) _) zb26)) (Nat.le_refl _)) (M.out.below (BB.out.trans (show Below w20.heap.size w26 _ from Below.mono (B := w26.heap.size) (by first | exact Below.refl _ _ | (go_grown; done) | exact bdrewN (Below.refl _ _) _ | exact bdrewN (by go_grown) _) zb26)) (Nat.le_refl _))).mono ?_; rintro e_ w27 ⟨rfl, hb27⟩; obtain ⟨hc27, hf27⟩ := bcellW hb27; have hz27 := hb27.size; (try simp only [World.size_alloc, World.size_drew, size_set] at hz27); (try simp only [World.size_alloc, World.size_drew, size_set] at hc27); (try simp only [World.size_alloc, World.size_drew, size_set] at hf27); have l27_0 : w3.heap.size < w27.heap.size := (by omega); have l27_1 : w5.heap.size < w27.heap.size := (by omega); have l27_2 : w7.heap.size < w27.heap.size := (by omega); have l27_3 : w8.heap.size < w27.heap.size := (by omega); have l27_4 : w9.heap.size < w27.heap.size := (by omega); have l27_5 : w10.heap.size < w27.heap.size := (by omega); have l27_6 : w11.heap.size < w27.heap.size := (by omega); have zb27 : w20.heap.size ≤ w27.heap.size := (by omega); have BB := Lib.hid ((BB.out.trans (show Below w20.heap.size w26 _ from Below.mono (B := w26.heap.size) (by first | exact Below.refl _ _ | (go_grown; done) | exact bdrewN (Below.refl _ _) _ | exact bdrewN (by go_grown) _) zb26)).trans (hb27.mono (by first | omega | (simp; done) | (simp; omega)))); clear hb27))
      go_wp2_with fail
      refine genP (S := fun w' => Below w3.heap.size w3 w' ∧ w9.heap.size < w'.heap.size ∧ w10.heap.size < w'.heap.size ∧ w'.cell? ⟨w9.heap.size, 0, none⟩ = some (.slice Q1 (List.length ds) q1_) ∧ w'.cell? ⟨w9.heap.size, 1, none⟩ = some (.slice Q2 (List.length ss) q2_) ∧ w'.cell? ⟨w10.heap.size, 0, none⟩ = some (.slice D10 (List.length (ctD ds ss kn)) d10) ∧ w'.cell? ⟨w10.heap.size, 1, none⟩ = some (.slice D10x (List.length (ctS ds ss kn)) d10x) ∧ ProfAt w' Q1 q1_ Q2 q2_ ds ss ∧ ProfAt w' D10 d10 D10x d10x (ctD ds ss kn) (ctS ds ss kn)) ⟨B20.out.trans (Below.mono (show Below w20.heap.size w20 _ from (by have hb_ := BB.out; first | with_reducible exact hb_ | exact bdrewN hb_ _ | (go_grown; done) | (go_grown <;> exact bdrewN hb_ _))) B20.out.size), by first | omega | (simp; done) | (simp; omega), by first | omega | (simp; done) | (simp; omega), by simp [*, go_sem], by simp [*, go_sem], by simp [*, go_sem], by simp [*, go_sem], (Q.out.below (B := w20.heap.size) (by have hb_ := BB.out; first | with_reducible exact hb_ | exact bdrewN hb_ _ | (go_grown; done) | (go_grown <;> exact bdrewN hb_ _)) (Nat.le_refl _)), (C.out.below (B := w20.heap.size) (by have hb_ := BB.out; first | with_reducible exact hb_ | exact bdrewN hb_ _ | (go_grown; done) | (go_grown <;> exact bdrewN hb_ _)) (Nat.le_refl _))⟩ ?_
      clear B20 BB P X Y Z Q C M k0 k1 k2 k3 k4 k5 k6 k7 k8 k9 k10 k11 k12 k13 lb0 lb1 lb2 lb3 lb4 lb5 lb6 hc21 hf21 hz21 zb21 hc22 hf22 hz22 zb22 hc23 hf23 hz23 zb23 hc24 hf24 hz24 zb24 hc25 hf25 hz25 zb25 hc26 hf26 hz26 zb26 hc27 hf27 hz27 zb27 l21_0 l21_1 l21_2 l21_3 l21_4 l21_5 l21_6 l22_0 l22_1 l22_2 l22_3 l22_4 l22_5 l22_6 l23_0 l23_1 l23_2 l23_3 l23_4 l23_5 l23_6 l24_0 l24_1 l24_2 l24_3 l24_4 l24_5 l24_6 l25_0 l25_1 l25_2 l25_3 l25_4 l25_5 l25_6 l26_0 l26_1 l26_2 l26_3 l26_4 l26_5 l26_6 l27_0 l27_1 l27_2 l27_3 l27_4 l27_5 l27_6
      rintro w30 ⟨b30, m0, m1, k0, k1, k2, k3, rQ, rC⟩
      have B30 := Lib.hid b30; have Q := Lib.hid rQ; have C := Lib.hid rC; clear b30 rQ rC
      by_cases hz : ctC ds ss kn = 0
      · obtain ⟨hv, e1, kn0, kn1, ln, l12⟩ := cut_is hz
        obtain ⟨j, rfl⟩ := Int.eq_ofNat_of_zero_le kn0
        rw [Int.toNat_natCast] at e1 ln
        obtain ⟨b1, o1, x1_, rfl, hb1, -, -⟩ := at_zero Q.out.1 (by omega)
        have hcap := Q.out.1.1
        have C1 := Lib.hid (show ∀ W, Below w30.heap.size w30 W → Calls Tryd.prog 43 #[profV D10 (ctD ds ss j).length d10 D10x (ctS ds ss j).length d10x] W fun e w' => e = .returned (.bool true) ∧ Below W.heap.size W w' from fun W h => by have q := implIsProfile_any _ _ _ _ _ _ W (C.out.1.below h (Nat.le_refl _)) (C.out.2.below h (Nat.le_refl _)); rw [hv] at q; exact q)
        have C2 := Lib.hid (show ∀ W, Below w30.heap.size w30 W → Calls Tryd.prog 46 #[.slice D10 (ctD ds ss j).length d10, .slice (some ⟨b1, o1, none⟩) (j + 1) q1_] W fun e w' => e = .returned (.bool true) ∧ Below W.heap.size W w' from fun W h => by have a := C.out.1.below h (Nat.le_refl _); rw [e1] at a; have q := likeInts_same _ _ _ _ _ W a ((Q.out.1.below h (Nat.le_refl _)).take (j + 1)); rw [e1]; rw [ln] at q ⊢; exact q)
        have kk0 : (0 : Int) ≤ (j : Int) + 1 := by omega
        have kk1 : (j : Int) + 1 ≤ (q1_ : Int) := by omega
        have kk3 : j + 1 ≤ q1_ := by omega
        have kk7 : ((j : Int) + 1).toNat = j + 1 := by omega
        have W0 : IntKind.i64.wrap ((j : Int) + 1) = (j : Int) + 1 := IntWalk.i64_in _ (by omega)
        clear hv e1 ln kn1 l12 hb1 hcap
        go_region_held3 (fun w' => w'.cell? ⟨w9.heap.size, 0, none⟩ = some (.slice (some ⟨b1, o1, none⟩) (List.length ds) q1_) ∧ w'.cell? ⟨w9.heap.size, 1, none⟩ = some (.slice Q2 (List.length ss) q2_) ∧ w'.cell? ⟨w10.heap.size, 0, none⟩ = some (.slice D10 (List.length (ctD ds ss (j : Int))) d10) ∧ w'.cell? ⟨w10.heap.size, 1, none⟩ = some (.slice D10x (List.length (ctS ds ss (j : Int))) d10x)) (first | (go_keep; done) | (simp [*, go_sem]; done))
          (first
            | (go_at_call 43; refine (C1.out _ (show Below w30.heap.size w30 _ from (by first | exact Below.refl _ _ | (go_grown; done) | exact bdrewN (Below.refl _ _) _ | exact bdrewN (by go_grown) _))).mono ?_; rintro e_ w31 ⟨rfl, hb31⟩; obtain ⟨hc31, hf31⟩ := bcellW hb31; have hz31 := hb31.size; (try simp only [World.size_alloc, World.size_drew, size_set] at hz31); (try simp only [World.size_alloc, World.size_drew, size_set] at hc31); (try simp only [World.size_alloc, World.size_drew, size_set] at hf31); have l31_0 : w9.heap.size < w31.heap.size := (by omega); have l31_1 : w10.heap.size < w31.heap.size := (by omega); have BB := Lib.hid ((show Below w30.heap.size w30 _ from (by first | exact Below.refl _ _ | (go_grown; done) | exact bdrewN (Below.refl _ _) _ | exact bdrewN (by go_grown) _)).trans (hb31.mono (by first | omega | (simp; done) | (simp; omega)))); clear hb31)
            | (have m_ := BB; clear m_; go_at_call 46; refine (C2.out _ (BB.out.trans (show Below w30.heap.size w31 _ from Below.mono (B := w31.heap.size) (by first | exact Below.refl _ _ | (go_grown; done) | exact bdrewN (Below.refl _ _) _ | exact bdrewN (by go_grown) _) (by omega)))).mono ?_; rintro e_ w32 ⟨rfl, hb32⟩; obtain ⟨hc32, hf32⟩ := bcellW hb32; have hz32 := hb32.size; (try simp only [World.size_alloc, World.size_drew, size_set] at hz32); (try simp only [World.size_alloc, World.size_drew, size_set] at hc32); (try simp only [World.size_alloc, World.size_drew, size_set] at hf32); have l32_0 : w9.heap.size < w32.heap.size := (by omega); have l32_1 : w10.heap.size < w32.heap.size := (by omega); have BB := Lib.hid ((BB.out.trans (show Below w30.heap.size w31 _ from Below.mono (B := w31.heap.size) (by first | exact Below.refl _ _ | (go_grown; done) | exact bdrewN (Below.refl _ _) _ | exact bdrewN (by go_grown) _) (by omega))).trans (hb32.mono (by first | omega | (simp; done) | (simp; omega)))); clear hb32))
        all_goals go_wp2
        all_goals go_ret
        all_goals exact ⟨rfl, B3.out.trans (Below.mono (show Below w3.heap.size w3 _ from B30.out.trans (Below.mono (show Below w30.heap.size w30 _ from (by have hb_ := BB.out; first | with_reducible exact hb_ | exact bdrewN hb_ _ | (go_grown; done) | (go_grown <;> exact bdrewN hb_ _))) B30.out.size)) B3.out.size)⟩
      · have hz2 : (ctC ds ss kn != 0) = true := by simpa using hz
        go_region
        all_goals go_wp2
        all_goals go_ret
        all_goals exact ⟨rfl, B3.out.trans (Below.mono (show Below w3.heap.size w3 _ from (by have hb_ := B30.out; first | with_reducible exact hb_ | exact bdrewN hb_ _ | (go_grown; done))) B3.out.size)⟩
    · have hp' : profB ts ls = false := by simpa using hp
      have hT0 := pxS_no hp'
      have GI := Lib.hid (show ∀ W B1 d1 B2 d2, TabW W → ProfAt W B1 d1 B2 d2 ts ls → Calls Tryd.prog 35 #[profV B1 ts.length d1 B2 ls.length d2] W fun e w' => e = .returned (strL []) ∧ Below W.heap.size W w' from fun W B1 d1 B2 d2 ht h => by have q := implProfileText_any B1 B2 d1 d2 ts ls W ht h; rw [hT0] at q; exact q)
      have GS := Lib.hid (show ∀ W B1 d1 B2 d2, ProfAt W B1 d1 B2 d2 ts ls → Calls Tryd.prog 42 #[profV B1 ts.length d1 B2 ls.length d2] W fun e w' => e = .returned (strL []) ∧ Below W.heap.size W w' from fun W B1 d1 B2 d2 h => by have q := specProfileText_any B1 B2 d1 d2 ts ls W h; rw [hT0] at q; exact q)
      have RT := Lib.hid (show ∀ W, RdW W → Calls Tryd.prog 36 #[strL []] W fun e w' => (∃ B1 d1 B2 d2, e = .returned (.tuple #[profV B1 (List.length ([] : List Int)) d1 B2 (List.length ([] : List Int)) d2, .bool false]) ∧ ResP w' W.heap.size w'.heap.size B1 d1 B2 d2 ([] : List Int) ([] : List Int)) ∧ Below W.heap.size W w' from fun W ht => by have q := implReadProfile_any [] W (by simp) ht; rw [rp_empty.1, rp_empty.2.1, rp_empty.2.2] at q; exact q)
      have II := Lib.hid (show ∀ W B1 d1 B2 d2, ProfAt W B1 d1 B2 d2 ts ls → Calls Tryd.prog 43 #[profV B1 ts.length d1 B2 ls.length d2] W fun e w' => e = .returned (.bool false) ∧ Below W.heap.size W w' from fun W B1 d1 B2 d2 h => by have q := implIsProfile_any B1 B2 d1 d2 ts ls W h.1 h.2; rw [hp'] at q; exact q)
      have IS := Lib.hid (show ∀ W B1 d1 B2 d2, ProfAt W B1 d1 B2 d2 ts ls → Calls Tryd.prog 44 #[profV B1 ts.length d1 B2 ls.length d2] W fun e w' => e = .returned (.bool false) ∧ Below W.heap.size W w' from fun W B1 d1 B2 d2 h => by have q := specIsProfile_any B1 B2 d1 d2 ts ls W h.1 h.2; rw [hp'] at q; exact q)
      clear hp hp' hT0
      go_wp2_with fail
      refine (GI.out _ _ _ _ _ ((TB.out.below (B := w3.heap.size) (by first | exact Below.refl _ _ | (go_grown; done) | exact bdrewN (by go_grown) _) (Nat.le_refl _))).tab (P.out.below (B := w3.heap.size) (by first | exact Below.refl _ _ | (go_grown; done) | exact bdrewN (by go_grown) _) (Nat.le_refl _))).mono ?_
      rintro e w4 ⟨rfl, hb4⟩
      have P := Lib.hid (((P.out).below (B := w3.heap.size) (by first | exact Below.refl _ _ | (go_grown; done) | exact bdrewN (by go_grown) _) (Nat.le_refl _)).below hb4 (Nat.le_refl _))
      have HX := Lib.hid (((HX.out).below (B := w3.heap.size) (by first | exact Below.refl _ _ | (go_grown; done) | exact bdrewN (by go_grown) _) (Nat.le_refl _)).below hb4 (Nat.le_refl _))
      have TB := Lib.hid (((TB.out).below (B := w3.heap.size) (by first | exact Below.refl _ _ | (go_grown; done) | exact bdrewN (by go_grown) _) (Nat.le_refl _)).below hb4 (Nat.le_refl _))
      obtain ⟨B4, hz4, q4, s4, t4, x4, y4, z4⟩ := bkeep (w := w3) [w3.heap.size] (by first | (simp; done) | (simp; omega)) (by first | (go_grown; done) | exact bdrewN (by go_grown) _) hb4; (try simp at hz4); clear hb4
      go_wp2_with fail
      refine (RT.out _ (TB.out.below (B := w4.heap.size) (by first | exact Below.refl _ _ | (go_grown; done) | exact bdrewN (by go_grown) _) (Nat.le_refl _))).mono ?_
      rintro e w5 ⟨⟨D5, d5, D5x, d5x, rfl, rr⟩, hb5⟩
      have P := Lib.hid (((P.out).below (B := w4.heap.size) (by first | exact Below.refl _ _ | (go_grown; done) | exact bdrewN (by go_grown) _) (Nat.le_refl _)).below hb5 (Nat.le_refl _))
      have HX := Lib.hid (((HX.out).below (B := w4.heap.size) (by first | exact Below.refl _ _ | (go_grown; done) | exact bdrewN (by go_grown) _) (Nat.le_refl _)).below hb5 (Nat.le_refl _))
      have TB := Lib.hid (((TB.out).below (B := w4.heap.size) (by first | exact Below.refl _ _ | (go_grown; done) | exact bdrewN (by go_grown) _) (Nat.le_refl _)).below hb5 (Nat.le_refl _))
      have X := Lib.hid (rr.at)
      obtain ⟨B5, hz5, q5, s5, t5, x5, y5, z5⟩ := bkeep (w := w3) [w3.heap.size] (by first | (simp; done) | (simp; omega)) (by first | (go_grown; done) | exact bdrewN (by go_grown) _) hb5; (try simp at hz5); clear hb5
      clear rr
      go_wp2_with fail
      refine (drawReadProfile_any A c xs _ (HX.out.below (B := w5.heap.size) (by first | exact Below.refl _ _ | (go_grown; done) | exact bdrewN (by go_grown) _) (Nat.le_refl _))).mono ?_
      rintro e w6 ⟨⟨m, rfl, hm⟩, hb6⟩
      have P := Lib.hid (((P.out).below (B := w5.heap.size) (by first | exact Below.refl _ _ | (go_grown; done) | exact bdrewN (by go_grown) _) (Nat.le_refl _)).below hb6 (Nat.le_refl _))
      have HX := Lib.hid (((HX.out).below (B := w5.heap.size) (by first | exact Below.refl _ _ | (go_grown; done) | exact bdrewN (by go_grown) _) (Nat.le_refl _)).below hb6 (Nat.le_refl _))
      have TB := Lib.hid (((TB.out).below (B := w5.heap.size) (by first | exact Below.refl _ _ | (go_grown; done) | exact bdrewN (by go_grown) _) (Nat.le_refl _)).below hb6 (Nat.le_refl _))
      have X := Lib.hid (((X.out).below (B := w5.heap.size) (by first | exact Below.refl _ _ | (go_grown; done) | exact bdrewN (by go_grown) _) (Nat.le_refl _)).below hb6 (Nat.le_refl _))
      obtain ⟨B6, hz6, q6, s6, t6, x6, y6, z6⟩ := bkeep (w := w3) [w3.heap.size, w5.heap.size] (by first | (simp; done) | (simp; omega)) (by first | (go_grown; done) | exact bdrewN (by go_grown) _) hb6; (try simp at hz6); clear hb6
      go_wp2_with fail
      refine (implReadProfile_any m _ (by omega) (TB.out.below (B := w6.heap.size) (by first | exact Below.refl _ _ | (go_grown; done) | exact bdrewN (by go_grown) _) (Nat.le_refl _))).mono ?_
      rintro e w7 ⟨⟨D7, d7, D7x, d7x, rfl, rr⟩, hb7⟩
      have P := Lib.hid (((P.out).below (B := w6.heap.size) (by first | exact Below.refl _ _ | (go_grown; done) | exact bdrewN (by go_grown) _) (Nat.le_refl _)).below hb7 (Nat.le_refl _))
      have HX := Lib.hid (((HX.out).below (B := w6.heap.size) (by first | exact Below.refl _ _ | (go_grown; done) | exact bdrewN (by go_grown) _) (Nat.le_refl _)).below hb7 (Nat.le_refl _))
      have TB := Lib.hid (((TB.out).below (B := w6.heap.size) (by first | exact Below.refl _ _ | (go_grown; done) | exact bdrewN (by go_grown) _) (Nat.le_refl _)).below hb7 (Nat.le_refl _))
      have X := Lib.hid (((X.out).below (B := w6.heap.size) (by first | exact Below.refl _ _ | (go_grown; done) | exact bdrewN (by go_grown) _) (Nat.le_refl _)).below hb7 (Nat.le_refl _))
      have Y := Lib.hid (rr.at)
      obtain ⟨B7, hz7, q7, s7, t7, x7, y7, z7⟩ := bkeep (w := w3) [w3.heap.size, w5.heap.size] (by first | (simp; done) | (simp; omega)) (by first | (go_grown; done) | exact bdrewN (by go_grown) _) hb7; (try simp at hz7); clear hb7
      clear rr
      go_wp2_with fail
      refine (specReadProfile_any m _ (by omega)).mono ?_
      rintro e w8 ⟨⟨D8, d8, D8x, d8x, rfl, rr⟩, hb8⟩
      have P := Lib.hid (((P.out).below (B := w7.heap.size) (by first | exact Below.refl _ _ | (go_grown; done) | exact bdrewN (by go_grown) _) (Nat.le_refl _)).below hb8 (Nat.le_refl _))
      have HX := Lib.hid (((HX.out).below (B := w7.heap.size) (by first | exact Below.refl _ _ | (go_grown; done) | exact bdrewN (by go_grown) _) (Nat.le_refl _)).below hb8 (Nat.le_refl _))
      have TB := Lib.hid (((TB.out).below (B := w7.heap.size) (by first | exact Below.refl _ _ | (go_grown; done) | exact bdrewN (by go_grown) _) (Nat.le_refl _)).below hb8 (Nat.le_refl _))
      have X := Lib.hid (((X.out).below (B := w7.heap.size) (by first | exact Below.refl _ _ | (go_grown; done) | exact bdrewN (by go_grown) _) (Nat.le_refl _)).below hb8 (Nat.le_refl _))
      have Y := Lib.hid (((Y.out).below (B := w7.heap.size) (by first | exact Below.refl _ _ | (go_grown; done) | exact bdrewN (by go_grown) _) (Nat.le_refl _)).below hb8 (Nat.le_refl _))
      have Z := Lib.hid (rr.at)
      obtain ⟨B8, hz8, q8, s8, t8, x8, y8, z8⟩ := bkeep (w := w3) [w3.heap.size, w5.heap.size, w7.heap.size] (by first | (simp; done) | (simp; omega)) (by first | (go_grown; done) | exact bdrewN (by go_grown) _) hb8; (try simp at hz8); clear hb8
      clear rr
      go_wp2_with fail
      refine (drawCutProfile_any A c xs _ (HX.out.below (B := w8.heap.size) (by first | exact Below.refl _ _ | (go_grown; done) | exact bdrewN (by go_grown) _) (Nat.le_refl _))).mono ?_
      rintro e w9 ⟨⟨Q1, q1_, Q2, q2_, ds, ss, kn, rfl, rr⟩, hb9⟩
      have P := Lib.hid (((P.out).below (B := w8.heap.size) (by first | exact Below.refl _ _ | (go_grown; done) | exact bdrewN (by go_grown) _) (Nat.le_refl _)).below hb9 (Nat.le_refl _))
      have HX := Lib.hid (((HX.out).below (B := w8.heap.size) (by first | exact Below.refl _ _ | (go_grown; done) | exact bdrewN (by go_grown) _) (Nat.le_refl _)).below hb9 (Nat.le_refl _))
      have X := Lib.hid (((X.out).below (B := w8.heap.size) (by first | exact Below.refl _ _ | (go_grown; done) | exact bdrewN (by go_grown) _) (Nat.le_refl _)).below hb9 (Nat.le_refl _))
      have Y := Lib.hid (((Y.out).below (B := w8.heap.size) (by first | exact Below.refl _ _ | (go_grown; done) | exact bdrewN (by go_grown) _) (Nat.le_refl _)).below hb9 (Nat.le_refl _))
      have Z := Lib.hid (((Z.out).below (B := w8.heap.size) (by first | exact Below.refl _ _ | (go_grown; done) | exact bdrewN (by go_grown) _) (Nat.le_refl _)).below hb9 (Nat.le_refl _))
      have Q := Lib.hid (rr.at)
      obtain ⟨B9, hz9, q9, s9, t9, x9, y9, z9⟩ := bkeep (w := w3) [w3.heap.size, w5.heap.size, w7.heap.size, w8.heap.size] (by first | (simp; done) | (simp; omega)) (by first | (go_grown; done) | exact bdrewN (by go_grown) _) hb9; (try simp at hz9); clear hb9
      clear rr
      go_wp2_with fail
      refine (implCutProfile_any _ _ _ _ ds ss kn _ (Q.out.below (B := w9.heap.size) (by first | exact Below.refl _ _ | (go_grown; done) | exact bdrewN (by go_grown) _) (Nat.le_refl _))).mono ?_
      rintro e w10 ⟨⟨D10, d10, D10x, d10x, rfl, rr⟩, hb10⟩
      have P := Lib.hid (((P.out).below (B := w9.heap.size) (by first | exact Below.refl _ _ | (go_grown; done) | exact bdrewN (by go_grown) _) (Nat.le_refl _)).below hb10 (Nat.le_refl _))
      have X := Lib.hid (((X.out).below (B := w9.heap.size) (by first | exact Below.refl _ _ | (go_grown; done) | exact bdrewN (by go_grown) _) (Nat.le_refl _)).below hb10 (Nat.le_refl _))
      have Y := Lib.hid (((Y.out).below (B := w9.heap.size) (by first | exact Below.refl _ _ | (go_grown; done) | exact bdrewN (by go_grown) _) (Nat.le_refl _)).below hb10 (Nat.le_refl _))
      have Z := Lib.hid (((Z.out).below (B := w9.heap.size) (by first | exact Below.refl _ _ | (go_grown; done) | exact bdrewN (by go_grown) _) (Nat.le_refl _)).below hb10 (Nat.le_refl _))
      have Q := Lib.hid (((Q.out).below (B := w9.heap.size) (by first | exact Below.refl _ _ | (go_grown; done) | exact bdrewN (by go_grown) _) (Nat.le_refl _)).below hb10 (Nat.le_refl _))
      have C := Lib.hid (rr.at)
      obtain ⟨B10, hz10, q10, s10, t10, x10, y10, z10⟩ := bkeep (w := w3) [w3.heap.size, w5.heap.size, w7.heap.size, w8.heap.size, w9.heap.size] (by first | (simp; done) | (simp; omega)) (by first | (go_grown; done) | exact bdrewN (by go_grown) _) hb10; (try simp at hz10); clear hb10
      clear rr
      go_wp2_with fail
      refine (specCutProfile_any _ _ _ _ ds ss kn _ (Q.out.below (B := w10.heap.size) (by first | exact Below.refl _ _ | (go_grown; done) | exact bdrewN (by go_grown) _) (Nat.le_refl _))).mono ?_
      rintro e w11 ⟨⟨D11, d11, D11x, d11x, rfl, rr⟩, hb11⟩
      have P := Lib.hid (((P.out).below (B := w10.heap.size) (by first | exact Below.refl _ _ | (go_grown; done) | exact bdrewN (by go_grown) _) (Nat.le_refl _)).below hb11 (Nat.le_refl _))
      have X := Lib.hid (((X.out).below (B := w10.heap.size) (by first | exact Below.refl _ _ | (go_grown; done) | exact bdrewN (by go_grown) _) (Nat.le_refl _)).below hb11 (Nat.le_refl _))
      have Y := Lib.hid (((Y.out).below (B := w10.heap.size) (by first | exact Below.refl _ _ | (go_grown; done) | exact bdrewN (by go_grown) _) (Nat.le_refl _)).below hb11 (Nat.le_refl _))
      have Z := Lib.hid (((Z.out).below (B := w10.heap.size) (by first | exact Below.refl _ _ | (go_grown; done) | exact bdrewN (by go_grown) _) (Nat.le_refl _)).below hb11 (Nat.le_refl _))
      have Q := Lib.hid (((Q.out).below (B := w10.heap.size) (by first | exact Below.refl _ _ | (go_grown; done) | exact bdrewN (by go_grown) _) (Nat.le_refl _)).below hb11 (Nat.le_refl _))
      have C := Lib.hid (((C.out).below (B := w10.heap.size) (by first | exact Below.refl _ _ | (go_grown; done) | exact bdrewN (by go_grown) _) (Nat.le_refl _)).below hb11 (Nat.le_refl _))
      have M := Lib.hid (rr.at)
      obtain ⟨B11, hz11, q11, s11, t11, x11, y11, z11⟩ := bkeep (w := w3) [w3.heap.size, w5.heap.size, w7.heap.size, w8.heap.size, w9.heap.size, w10.heap.size] (by first | (simp; done) | (simp; omega)) (by first | (go_grown; done) | exact bdrewN (by go_grown) _) hb11; (try simp at hz11); clear hb11
      clear rr
      go_upto_region 12 with fail
      refine genP (S := fun w' => Below w3.heap.size w3 w' ∧ w3.heap.size < w'.heap.size ∧ w5.heap.size < w'.heap.size ∧ w7.heap.size < w'.heap.size ∧ w8.heap.size < w'.heap.size ∧ w9.heap.size < w'.heap.size ∧ w10.heap.size < w'.heap.size ∧ w11.heap.size < w'.heap.size ∧ w'.cell? ⟨w3.heap.size, 0, none⟩ = some (.slice A1 (List.length ts) c1) ∧ w'.cell? ⟨w3.heap.size, 1, none⟩ = some (.slice A2 (List.length ls) c2) ∧ w'.cell? ⟨w5.heap.size, 0, none⟩ = some (.slice D5 (List.length ([] : List Int)) d5) ∧ w'.cell? ⟨w5.heap.size, 1, none⟩ = some (.slice D5x (List.length ([] : List Int)) d5x) ∧ w'.cell? ⟨w7.heap.size, 0, none⟩ = some (.slice D7 (List.length (rpT m)) d7) ∧ w'.cell? ⟨w7.heap.size, 1, none⟩ = some (.slice D7x (List.length (rpL m)) d7x) ∧ w'.cell? ⟨w8.heap.size, 0, none⟩ = some (.slice D8 (List.length (rpT m)) d8) ∧ w'.cell? ⟨w8.heap.size, 1, none⟩ = some (.slice D8x (List.length (rpL m)) d8x) ∧ w'.cell? ⟨w9.heap.size, 0, none⟩ = some (.slice Q1 (List.length ds) q1_) ∧ w'.cell? ⟨w9.heap.size, 1, none⟩ = some (.slice Q2 (List.length ss) q2_) ∧ w'.cell? ⟨w10.heap.size, 0, none⟩ = some (.slice D10 (List.length (ctD ds ss kn)) d10) ∧ w'.cell? ⟨w10.heap.size, 1, none⟩ = some (.slice D10x (List.length (ctS ds ss kn)) d10x) ∧ w'.cell? ⟨w11.heap.size, 0, none⟩ = some (.slice D11 (List.length (ctD ds ss kn)) d11) ∧ w'.cell? ⟨w11.heap.size, 1, none⟩ = some (.slice D11x (List.length (ctS ds ss kn)) d11x) ∧ ProfAt w' A1 c1 A2 c2 ts ls ∧ ProfAt w' D5 d5 D5x d5x ([] : List Int) ([] : List Int) ∧ ProfAt w' D7 d7 D7x d7x (rpT m) (rpL m) ∧ ProfAt w' D8 d8 D8x d8x (rpT m) (rpL m) ∧ ProfAt w' Q1 q1_ Q2 q2_ ds ss ∧ ProfAt w' D10 d10 D10x d10x (ctD ds ss kn) (ctS ds ss kn) ∧ ProfAt w' D11 d11 D11x d11x (ctD ds ss kn) (ctS ds ss kn)) ⟨(by first | exact B11 | (go_grown; done)), by first | omega | (simp; done) | (simp; omega), by first | omega | (simp; done) | (simp; omega), by first | omega | (simp; done) | (simp; omega), by first | omega | (simp; done) | (simp; omega), by first | omega | (simp; done) | (simp; omega), by first | omega | (simp; done) | (simp; omega), by first | omega | (simp; done) | (simp; omega), by simp [*, go_sem], by simp [*, go_sem], by simp [*, go_sem], by simp [*, go_sem], by simp [*, go_sem], by simp [*, go_sem], by simp [*, go_sem], by simp [*, go_sem], by simp [*, go_sem], by simp [*, go_sem], by simp [*, go_sem], by simp [*, go_sem], by simp [*, go_sem], by simp [*, go_sem], (P.out).below (B := w11.heap.size) (by first | exact Below.refl _ _ | (go_grown; done) | exact bdrewN (by go_grown) _) (Nat.le_refl _), (X.out).below (B := w11.heap.size) (by first | exact Below.refl _ _ | (go_grown; done) | exact bdrewN (by go_grown) _) (Nat.le_refl _), (Y.out).below (B := w11.heap.size) (by first | exact Below.refl _ _ | (go_grown; done) | exact bdrewN (by go_grown) _) (Nat.le_refl _), (Z.out).below (B := w11.heap.size) (by first | exact Below.refl _ _ | (go_grown; done) | exact bdrewN (by go_grown) _) (Nat.le_refl _), (Q.out).below (B := w11.heap.size) (by first | exact Below.refl _ _ | (go_grown; done) | exact bdrewN (by go_grown) _) (Nat.le_refl _), (C.out).below (B := w11.heap.size) (by first | exact Below.refl _ _ | (go_grown; done) | exact bdrewN (by go_grown) _) (Nat.le_refl _), (M.out).below (B := w11.heap.size) (by first | exact Below.refl _ _ | (go_grown; done) | exact bdrewN (by go_grown) _) (Nat.le_refl _)⟩ ?_
      clear P X Y Z Q C M
      clear q4 s4 t4 x4 y4 z4 hz4 B4
      clear q5 s5 t5 x5 y5 z5 hz5 B5
      clear q6 s6 t6 x6 y6 z6 hz6 B6
      clear q7 s7 t7 x7 y7 z7 hz7 B7
      clear q8 s8 t8 x8 y8 z8 hz8 B8
      clear q9 s9 t9 x9 y9 z9 hz9 B9
      clear q10 s10 t10 x10 y10 z10 hz10 B10
      clear q11 s11 t11 x11 y11 z11 hz11 B11
      rintro w20 ⟨b20, lb0, lb1, lb2, lb3, lb4, lb5, lb6, k0, k1, k2, k3, k4, k5, k6, k7, k8, k9, k10, k11, k12, k13, rP, rX, rY, rZ, rQ, rC, rM⟩
      have B20 := Lib.hid b20; have P := Lib.hid rP; have X := Lib.hid rX; have Y := Lib.hid rY; have Z := Lib.hid rZ; have Q := Lib.hid rQ; have C := Lib.hid rC; have M := Lib.hid rM; clear b20 rP rX rY rZ rQ rC rM
      have TK0 := Lib.hid True.intro
      have TK1 := Lib.hid True.intro
      have TK2 := Lib.hid True.intro
      have TK3 := Lib.hid True.intro
      have TK4 := Lib.hid True.intro
      have TK5 := Lib.hid True.intro
      refine wp_region_held_drew (S := fun w' => w'.cell? ⟨w3.heap.size, 0, none⟩ = some (.slice A1 (List.length ts) c1) ∧ w'.cell? ⟨w3.heap.size, 1, none⟩ = some (.slice A2 (List.length ls) c2) ∧ w'.cell? ⟨w5.heap.size, 0, none⟩ = some (.slice D5 (List.length ([] : List Int)) d5) ∧ w'.cell? ⟨w5.heap.size, 1, none⟩ = some (.slice D5x (List.length ([] : List Int)) d5x) ∧ w'.cell? ⟨w7.heap.size, 0, none⟩ = some (.slice D7 (List.length (rpT m)) d7) ∧ w'.cell? ⟨w7.heap.size, 1, none⟩ = some (.slice D7x (List.length (rpL m)) d7x) ∧ w'.cell? ⟨w8.heap.size, 0, none⟩ = some (.slice D8 (List.length (rpT m)) d8) ∧ w'.cell? ⟨w8.heap.size, 1, none⟩ = some (.slice D8x (List.length (rpL m)) d8x) ∧ w'.cell? ⟨w9.heap.size, 0, none⟩ = some (.slice Q1 (List.length ds) q1_) ∧ w'.cell? ⟨w9.heap.size, 1, none⟩ = some (.slice Q2 (List.length ss) q2_) ∧ w'.cell? ⟨w10.heap.size, 0, none⟩ = some (.slice D10 (List.length (ctD ds ss kn)) d10) ∧ w'.cell? ⟨w10.heap.size, 1, none⟩ = some (.slice D10x (List.length (ctS ds ss kn)) d10x) ∧ w'.cell? ⟨w11.heap.size, 0, none⟩ = some (.slice D11 (List.length (ctD ds ss kn)) d11) ∧ w'.cell? ⟨w11.heap.size, 1, none⟩ = some (.slice D11x (List.length (ctS ds ss kn)) d11x)) (by kernel_rfl) ?_ (fun hHeld => ?_)
      · (try dsimp only); (first | (go_keep; done) | (simp [*, go_sem]; done))
      refine wpAnyH_take (i := 0) (v := ?_) rfl (by kernel_rfl) (by kernel_rfl) (by kernel_rfl) (fun _ _ _ h => h) (Or.inl ⟨by rfl, ?_⟩) (by assumption) ?_
      rotate_left
      · intro wz hSw
        (try dsimp only at hSw)
        go_simp
        (try with_reducible rfl)
      (try simp only [Act.put, List.getElem_toArray, List.getElem_cons_zero, List.getElem_cons_succ, List.setIfInBounds_toArray, List.set_cons_zero, List.set_cons_succ])
      refine wpAnyH_take (i := 1) (v := ?_) rfl (by kernel_rfl) (by kernel_rfl) (by kernel_rfl) (fun _ _ _ h => h) (Or.inl ⟨by rfl, ?_⟩) (by assumption) ?_
      rotate_left
      · intro wz hSw
        (try dsimp only at hSw)
        go_simp
        (try with_reducible rfl)
      (try simp only [Act.put, List.getElem_toArray, List.getElem_cons_zero, List.getElem_cons_succ, List.setIfInBounds_toArray, List.set_cons_zero, List.set_cons_succ])
      refine wpAnyH_ready (rs := [2]) (by kernel_rfl) (by simp) ?_
      refine AllReadyH.cons rfl (fun K hK => ?_) AllReadyH.nil
      go_simp
      have m_ := TK0; clear m_ TK0; go_at_call 42; refine (GS.out _ _ _ _ _ (P.out.below (show Below w20.heap.size w20 _ from (by first | exact Below.refl _ _ | (go_grown; done) | exact bdrewN (Below.refl _ _) _ | exact bdrewN (by go_grown) _)) (Nat.le_refl _))).mono ?_; rintro e_ w21 ⟨rfl, hb21⟩; obtain ⟨hc21, hf21⟩ := bcellW hb21; have hz21 := hb21.size; (try simp only [World.size_alloc, World.size_drew, size_set] at hz21); (try simp only [World.size_alloc, World.size_drew, size_set] at hc21); (try simp only [World.size_alloc, World.size_drew, size_set] at hf21); have l21_0 : w3.heap.size < w21.heap.size := (by omega); have l21_1 : w5.heap.size < w21.heap.size := (by omega); have l21_2 : w7.heap.size < w21.heap.size := (by omega); have l21_3 : w8.heap.size < w21.heap.size := (by omega); have l21_4 : w9.heap.size < w21.heap.size := (by omega); have l21_5 : w10.heap.size < w21.heap.size := (by omega); have l21_6 : w11.heap.size < w21.heap.size := (by omega); have zb21 : w20.heap.size ≤ w21.heap.size := (by omega); have BB := Lib.hid ((show Below w20.heap.size w20 _ from (by first | exact Below.refl _ _ | (go_grown; done) | exact bdrewN (Below.refl _ _) _ | exact bdrewN (by go_grown) _)).trans (hb21.mono (by first | omega | (simp; done) | (simp; omega)))); clear hb21
      (try go_wp2_with fail)
      refine hK.out _ _ ?_ (fun hHeld2 => ?_)
      · (try dsimp only); (first | (go_keep; done) | (simp [*, go_sem]; done))
      clear hK K hHeld
      have hHeld := hHeld2; clear hHeld2
      (try simp only [Act.put, List.getElem_toArray, List.getElem_cons_zero, List.getElem_cons_succ, List.setIfInBounds_toArray, List.set_cons_zero, List.set_cons_succ])
      refine wpAnyH_take (i := 3) (v := ?_) rfl (by kernel_rfl) (by kernel_rfl) (by kernel_rfl) (fun _ _ _ h => h) (Or.inl ⟨by rfl, ?_⟩) (by assumption) ?_
      rotate_left
      · intro wz hSw
        (try dsimp only at hSw)
        go_simp
        (try with_reducible rfl)
      (try simp only [Act.put, List.getElem_toArray, List.getElem_cons_zero, List.getElem_cons_succ, List.setIfInBounds_toArray, List.set_cons_zero, List.set_cons_succ])
      refine wpAnyH_take (i := 4) (v := ?_) rfl (by kernel_rfl) (by kernel_rfl) (by kernel_rfl) (fun _ _ _ h => h) (Or.inl ⟨by rfl, ?_⟩) (by assumption) ?_
      rotate_left
      · intro wz hSw
        (try dsimp only at hSw)
        go_simp
        (try with_reducible rfl)
      (try simp only [Act.put, List.getElem_toArray, List.getElem_cons_zero, List.getElem_cons_succ, List.setIfInBounds_toArray, List.set_cons_zero, List.set_cons_succ])
      refine wpAnyH_take (i := 5) (v := ?_) rfl (by kernel_rfl) (by kernel_rfl) (by kernel_rfl) (fun _ _ _ h => h) (Or.inl ⟨by rfl, ?_⟩) (by assumption) ?_
      rotate_left
      · intro wz hSw
        (try dsimp only at hSw)
        go_simp
        (try with_reducible rfl)
      (try simp only [Act.put, List.getElem_toArray, List.getElem_cons_zero, List.getElem_cons_succ, List.setIfInBounds_toArray, List.set_cons_zero, List.set_cons_succ])
      refine wpAnyH_take (i := 6) (v := ?_) rfl (by kernel_rfl) (by kernel_rfl) (by kernel_rfl) (fun _ _ _ h => h) (Or.inl ⟨by rfl, ?_⟩) (by assumption) ?_
      rotate_left
      · intro wz hSw
        (try dsimp only at hSw)
        go_simp
        (try with_reducible rfl)
      (try simp only [Act.put, List.getElem_toArray, List.getElem_cons_zero, List.getElem_cons_succ, List.setIfInBounds_toArray, List.set_cons_zero, List.set_cons_succ])
      refine wpAnyH_ready (rs := [7]) (by kernel_rfl) (by simp) ?_
      refine AllReadyH.cons rfl (fun K hK => ?_) AllReadyH.nil
      go_simp
      have m_ := TK1; clear m_ TK1; go_at_call 43; refine (II.out _ _ _ _ _ (P.out.below (BB.out.trans (show Below w20.heap.size w21 _ from Below.mono (B := w21.heap.size) (by first | exact Below.refl _ _ | (go_grown; done) | exact bdrewN (Below.refl _ _) _ | exact bdrewN (by go_grown) _) zb21)) (Nat.le_refl _))).mono ?_; rintro e_ w22 ⟨rfl, hb22⟩; obtain ⟨hc22, hf22⟩ := bcellW hb22; have hz22 := hb22.size; (try simp only [World.size_alloc, World.size_drew, size_set] at hz22); (try simp only [World.size_alloc, World.size_drew, size_set] at hc22); (try simp only [World.size_alloc, World.size_drew, size_set] at hf22); have l22_0 : w3.heap.size < w22.heap.size := (by omega); have l22_1 : w5.heap.size < w22.heap.size := (by omega); have l22_2 : w7.heap.size < w22.heap.size := (by omega); have l22_3 : w8.heap.size < w22.heap.size := (by omega); have l22_4 : w9.heap.size < w22.heap.size := (by omega); have l22_5 : w10.heap.size < w22.heap.size := (by omega); have l22_6 : w11.heap.size < w22.heap.size := (by omega); have zb22 : w20.heap.size ≤ w22.heap.size := (by omega); have BB := Lib.hid ((BB.out.trans (show Below w20.heap.size w21 _ from Below.mono (B := w21.heap.size) (by first | exact Below.refl _ _ | (go_grown; done) | exact bdrewN (Below.refl _ _) _ | exact bdrewN (by go_grown) _) zb21)).trans (hb22.mono (by first | omega | (simp; done) | (simp; omega)))); clear hb22
      (try go_wp2_with fail)
      refine hK.out _ _ ?_ (fun hHeld2 => ?_)
      · (try dsimp only); (first | (go_keep; done) | (simp [*, go_sem]; done))
      clear hK K hHeld
      have hHeld := hHeld2; clear hHeld2
      (try simp only [Act.put, List.getElem_toArray, List.getElem_cons_zero, List.getElem_cons_succ, List.setIfInBounds_toArray, List.set_cons_zero, List.set_cons_succ])
      refine wpAnyH_take (i := 8) (v := ?_) rfl (by kernel_rfl) (by kernel_rfl) (by kernel_rfl) (fun _ _ _ h => h) (Or.inl ⟨by rfl, ?_⟩) (by assumption) ?_
      rotate_left
      · intro wz hSw
        (try dsimp only at hSw)
        go_simp
        (try with_reducible rfl)
      (try simp only [Act.put, List.getElem_toArray, List.getElem_cons_zero, List.getElem_cons_succ, List.setIfInBounds_toArray, List.set_cons_zero, List.set_cons_succ])
      refine wpAnyH_take (i := 9) (v := ?_) rfl (by kernel_rfl) (by kernel_rfl) (by kernel_rfl) (fun _ _ _ h => h) (Or.inl ⟨by rfl, ?_⟩) (by assumption) ?_
      rotate_left
      · intro wz hSw
        (try dsimp only at hSw)
        go_simp
        (try with_reducible rfl)
      (try simp only [Act.put, List.getElem_toArray, List.getElem_cons_zero, List.getElem_cons_succ, List.setIfInBounds_toArray, List.set_cons_zero, List.set_cons_succ])
      refine wpAnyH_take (i := 10) (v := ?_) rfl (by kernel_rfl) (by kernel_rfl) (by kernel_rfl) (fun _ _ _ h => h) (Or.inl ⟨by rfl, ?_⟩) (by assumption) ?_
      rotate_left
      · intro wz hSw
        (try dsimp only at hSw)
        go_simp
        (try with_reducible rfl)
      (try simp only [Act.put, List.getElem_toArray, List.getElem_cons_zero, List.getElem_cons_succ, List.setIfInBounds_toArray, List.set_cons_zero, List.set_cons_succ])
      refine wpAnyH_take (i := 11) (v := ?_) rfl (by kernel_rfl) (by kernel_rfl) (by kernel_rfl) (fun _ _ _ h => h) (Or.inl ⟨by rfl, ?_⟩) (by assumption) ?_
      rotate_left
      · intro wz hSw
        (try dsimp only at hSw)
        go_simp
        (try with_reducible rfl)
      (try simp only [Act.put, List.getElem_toArray, List.getElem_cons_zero, List.getElem_cons_succ, List.setIfInBounds_toArray, List.set_cons_zero, List.set_cons_succ])
      refine wpAnyH_take (i := 13) (v := ?_) rfl (by kernel_rfl) (by kernel_rfl) (by kernel_rfl) (fun _ _ _ h => h) (Or.inl ⟨by rfl, ?_⟩) (by assumption) ?_
      rotate_left
      · intro wz hSw
        (try dsimp only at hSw)
        go_simp
        (try with_reducible rfl)
      (try simp only [Act.put, List.getElem_toArray, List.getElem_cons_zero, List.getElem_cons_succ, List.setIfInBounds_toArray, List.set_cons_zero, List.set_cons_succ])
      refine wpAnyH_ready (rs := [12]) (by kernel_rfl) (by simp) ?_
      refine AllReadyH.cons rfl (fun K hK => ?_) AllReadyH.nil
      go_simp
      have m_ := TK2; clear m_ TK2; go_at_call 43; refine (II.out _ _ _ _ _ (P.out.below (BB.out.trans (show Below w20.heap.size w22 _ from Below.mono (B := w22.heap.size) (by first | exact Below.refl _ _ | (go_grown; done) | exact bdrewN (Below.refl _ _) _ | exact bdrewN (by go_grown) _) zb22)) (Nat.le_refl _))).mono ?_; rintro e_ w23 ⟨rfl, hb23⟩; obtain ⟨hc23, hf23⟩ := bcellW hb23; have hz23 := hb23.size; (try simp only [World.size_alloc, World.size_drew, size_set] at hz23); (try simp only [World.size_alloc, World.size_drew, size_set] at hc23); (try simp only [World.size_alloc, World.size_drew, size_set] at hf23); have l23_0 : w3.heap.size < w23.heap.size := (by omega); have l23_1 : w5.heap.size < w23.heap.size := (by omega); have l23_2 : w7.heap.size < w23.heap.size := (by omega); have l23_3 : w8.heap.size < w23.heap.size := (by omega); have l23_4 : w9.heap.size < w23.heap.size := (by omega); have l23_5 : w10.heap.size < w23.heap.size := (by omega); have l23_6 : w11.heap.size < w23.heap.size := (by omega); have zb23 : w20.heap.size ≤ w23.heap.size := (by omega); have BB := Lib.hid ((BB.out.trans (show Below w20.heap.size w22 _ from Below.mono (B := w22.heap.size) (by first | exact Below.refl _ _ | (go_grown; done) | exact bdrewN (Below.refl _ _) _ | exact bdrewN (by go_grown) _) zb22)).trans (hb23.mono (by first | omega | (simp; done) | (simp; omega)))); clear hb23
      (try go_wp2_with fail)
      refine hK.out _ _ ?_ (fun hHeld2 => ?_)
      · (try dsimp only); (first | (go_keep; done) | (simp [*, go_sem]; done))
      clear hK K hHeld
      have hHeld := hHeld2; clear hHeld2
      (try simp only [Act.put, List.getElem_toArray, List.getElem_cons_zero, List.getElem_cons_succ, List.setIfInBounds_toArray, List.set_cons_zero, List.set_cons_succ])
      refine wpAnyH_ready (rs := [14]) (by kernel_rfl) (by simp) ?_
      refine AllReadyH.cons rfl (fun K hK => ?_) AllReadyH.nil
      go_simp
      have m_ := TK3; clear m_ TK3; go_at_call 44; refine (IS.out _ _ _ _ _ (P.out.below (BB.out.trans (show Below w20.heap.size w23 _ from Below.mono (B := w23.heap.size) (by first | exact Below.refl _ _ | (go_grown; done) | exact bdrewN (Below.refl _ _) _ | exact bdrewN (by go_grown) _) zb23)) (Nat.le_refl _))).mono ?_; rintro e_ w24 ⟨rfl, hb24⟩; obtain ⟨hc24, hf24⟩ := bcellW hb24; have hz24 := hb24.size; (try simp only [World.size_alloc, World.size_drew, size_set] at hz24); (try simp only [World.size_alloc, World.size_drew, size_set] at hc24); (try simp only [World.size_alloc, World.size_drew, size_set] at hf24); have l24_0 : w3.heap.size < w24.heap.size := (by omega); have l24_1 : w5.heap.size < w24.heap.size := (by omega); have l24_2 : w7.heap.size < w24.heap.size := (by omega); have l24_3 : w8.heap.size < w24.heap.size := (by omega); have l24_4 : w9.heap.size < w24.heap.size := (by omega); have l24_5 : w10.heap.size < w24.heap.size := (by omega); have l24_6 : w11.heap.size < w24.heap.size := (by omega); have zb24 : w20.heap.size ≤ w24.heap.size := (by omega); have BB := Lib.hid ((BB.out.trans (show Below w20.heap.size w23 _ from Below.mono (B := w23.heap.size) (by first | exact Below.refl _ _ | (go_grown; done) | exact bdrewN (Below.refl _ _) _ | exact bdrewN (by go_grown) _) zb23)).trans (hb24.mono (by first | omega | (simp; done) | (simp; omega)))); clear hb24
      (try go_wp2_with fail)
      refine hK.out _ _ ?_ (fun hHeld2 => ?_)
      · (try dsimp only); (first | (go_keep; done) | (simp [*, go_sem]; done))
      clear hK K hHeld
      have hHeld := hHeld2; clear hHeld2
      (try simp only [Act.put, List.getElem_toArray, List.getElem_cons_zero, List.getElem_cons_succ, List.setIfInBounds_toArray, List.set_cons_zero, List.set_cons_succ])
      refine wpAnyH_take (i := 15) (v := ?_) rfl (by kernel_rfl) (by kernel_rfl) (by kernel_rfl) (fun _ _ _ h => h) (Or.inl ⟨by rfl, ?_⟩) (by assumption) ?_
      rotate_left
      · intro wz hSw
        (try dsimp only at hSw)
        go_simp
        (try with_reducible rfl)
      (try simp only [Act.put, List.getElem_toArray, List.getElem_cons_zero, List.getElem_cons_succ, List.setIfInBounds_toArray, List.set_cons_zero, List.set_cons_succ])
      refine wpAnyH_take (i := 16) (v := ?_) rfl (by kernel_rfl) (by kernel_rfl) (by kernel_rfl) (fun _ _ _ h => h) (Or.inl ⟨by rfl, ?_⟩) (by assumption) ?_
      rotate_left
      · intro wz hSw
        (try dsimp only at hSw)
        go_simp
        (try with_reducible rfl)
      (try simp only [Act.put, List.getElem_toArray, List.getElem_cons_zero, List.getElem_cons_succ, List.setIfInBounds_toArray, List.set_cons_zero, List.set_cons_succ])
      refine wpAnyH_take (i := 17) (v := ?_) rfl (by kernel_rfl) (by kernel_rfl) (by kernel_rfl) (fun _ _ _ h => h) (Or.inl ⟨by rfl, ?_⟩) (by assumption) ?_
      rotate_left
      · intro wz hSw
        (try dsimp only at hSw)
        go_simp
        (try with_reducible rfl)
      (try simp only [Act.put, List.getElem_toArray, List.getElem_cons_zero, List.getElem_cons_succ, List.setIfInBounds_toArray, List.set_cons_zero, List.set_cons_succ])
      refine wpAnyH_take (i := 18) (v := ?_) rfl (by kernel_rfl) (by kernel_rfl) (by kernel_rfl) (fun _ _ _ h => h) (Or.inl ⟨by rfl, ?_⟩) (by assumption) ?_
      rotate_left
      · intro wz hSw
        (try dsimp only at hSw)
        go_simp
        (try with_reducible rfl)
      (try simp only [Act.put, List.getElem_toArray, List.getElem_cons_zero, List.getElem_cons_succ, List.setIfInBounds_toArray, List.set_cons_zero, List.set_cons_succ])
      refine wpAnyH_take (i := 19) (v := ?_) rfl (by kernel_rfl) (by kernel_rfl) (by kernel_rfl) (fun _ _ _ h => h) (Or.inl ⟨by rfl, ?_⟩) (by assumption) ?_
      rotate_left
      · intro wz hSw
        (try dsimp only at hSw)
        go_simp
        (try with_reducible rfl)
      (try simp only [Act.put, List.getElem_toArray, List.getElem_cons_zero, List.getElem_cons_succ, List.setIfInBounds_toArray, List.set_cons_zero, List.set_cons_succ])
      refine wpAnyH_take (i := 20) (v := undef) rfl (by kernel_rfl) (by kernel_rfl) (by kernel_rfl) (fun _ _ _ h => h) (Or.inr ⟨by rfl, rfl⟩) (by assumption) ?_
      (try simp only [Act.put, List.getElem_toArray, List.getElem_cons_zero, List.getElem_cons_succ, List.setIfInBounds_toArray, List.set_cons_zero, List.set_cons_succ])
      refine wpAnyH_take (i := 21) (v := undef) rfl (by kernel_rfl) (by kernel_rfl) (by kernel_rfl) (fun _ _ _ h => h) (Or.inr ⟨by rfl, rfl⟩) (by assumption) ?_
      (try simp only [Act.put, List.getElem_toArray, List.getElem_cons_zero, List.getElem_cons_succ, List.setIfInBounds_toArray, List.set_cons_zero, List.set_cons_succ])
      refine wpAnyH_take (i := 22) (v := undef) rfl (by kernel_rfl) (by kernel_rfl) (by kernel_rfl) (fun _ _ _ h => h) (Or.inr ⟨by rfl, rfl⟩) (by assumption) ?_
      (try simp only [Act.put, List.getElem_toArray, List.getElem_cons_zero, List.getElem_cons_succ, List.setIfInBounds_toArray, List.set_cons_zero, List.set_cons_succ])
      refine wpAnyH_take (i := 23) (v := undef) rfl (by kernel_rfl) (by kernel_rfl) (by kernel_rfl) (fun _ _ _ h => h) (Or.inr ⟨by rfl, rfl⟩) (by assumption) ?_
      (try simp only [Act.put, List.getElem_toArray, List.getElem_cons_zero, List.getElem_cons_succ, List.setIfInBounds_toArray, List.set_cons_zero, List.set_cons_succ])
      refine wpAnyH_take (i := 24) (v := ?_) rfl (by kernel_rfl) (by kernel_rfl) (by kernel_rfl) (fun _ _ _ h => h) (Or.inl ⟨by rfl, ?_⟩) (by assumption) ?_
      rotate_left
      · intro wz hSw
        (try dsimp only at hSw)
        go_simp
        (try with_reducible rfl)
      (try simp only [Act.put, List.getElem_toArray, List.getElem_cons_zero, List.getElem_cons_succ, List.setIfInBounds_toArray, List.set_cons_zero, List.set_cons_succ])
      refine wpAnyH_take (i := 25) (v := ?_) rfl (by kernel_rfl) (by kernel_rfl) (by kernel_rfl) (fun _ _ _ h => h) (Or.inl ⟨by rfl, ?_⟩) (by assumption) ?_
      rotate_left
      · intro wz hSw
        (try dsimp only at hSw)
        go_simp
        (try with_reducible rfl)
      (try simp only [Act.put, List.getElem_toArray, List.getElem_cons_zero, List.getElem_cons_succ, List.setIfInBounds_toArray, List.set_cons_zero, List.set_cons_succ])
      refine wpAnyH_take (i := 26) (v := ?_) rfl (by kernel_rfl) (by kernel_rfl) (by kernel_rfl) (fun _ _ _ h => h) (Or.inl ⟨by rfl, ?_⟩) (by assumption) ?_
      rotate_left
      · intro wz hSw
        (try dsimp only at hSw)
        go_simp
        (try with_reducible rfl)
      (try simp only [Act.put, List.getElem_toArray, List.getElem_cons_zero, List.getElem_cons_succ, List.setIfInBounds_toArray, List.set_cons_zero, List.set_cons_succ])
      refine wpAnyH_take (i := 27) (v := ?_) rfl (by kernel_rfl) (by kernel_rfl) (by kernel_rfl) (fun _ _ _ h => h) (Or.inl ⟨by rfl, ?_⟩) (by assumption) ?_
      rotate_left
      · intro wz hSw
        (try dsimp only at hSw)
        go_simp
        (try with_reducible rfl)
      (try simp only [Act.put, List.getElem_toArray, List.getElem_cons_zero, List.getElem_cons_succ, List.setIfInBounds_toArray, List.set_cons_zero, List.set_cons_succ])
      refine wpAnyH_take (i := 28) (v := ?_) rfl (by kernel_rfl) (by kernel_rfl) (by kernel_rfl) (fun _ _ _ h => h) (Or.inl ⟨by rfl, ?_⟩) (by assumption) ?_
      rotate_left
      · intro wz hSw
        (try dsimp only at hSw)
        go_simp
        (try with_reducible rfl)
      (try simp only [Act.put, List.getElem_toArray, List.getElem_cons_zero, List.getElem_cons_succ, List.setIfInBounds_toArray, List.set_cons_zero, List.set_cons_succ])
      refine wpAnyH_take (i := 29) (v := ?_) rfl (by kernel_rfl) (by kernel_rfl) (by kernel_rfl) (fun _ _ _ h => h) (Or.inl ⟨by rfl, ?_⟩) (by assumption) ?_
      rotate_left
      · intro wz hSw
        (try dsimp only at hSw)
        go_simp
        (try with_reducible rfl)
      (try simp only [Act.put, List.getElem_toArray, List.getElem_cons_zero, List.getElem_cons_succ, List.setIfInBounds_toArray, List.set_cons_zero, List.set_cons_succ])
      refine wpAnyH_take (i := 30) (v := ?_) rfl (by kernel_rfl) (by kernel_rfl) (by kernel_rfl) (fun _ _ _ h => h) (Or.inl ⟨by rfl, ?_⟩) (by assumption) ?_
      rotate_left
      · intro wz hSw
        (try dsimp only at hSw)
        go_simp
        (try with_reducible rfl)
      (try simp only [Act.put, List.getElem_toArray, List.getElem_cons_zero, List.getElem_cons_succ, List.setIfInBounds_toArray, List.set_cons_zero, List.set_cons_succ])
      refine wpAnyH_take (i := 31) (v := ?_) rfl (by kernel_rfl) (by kernel_rfl) (by kernel_rfl) (fun _ _ _ h => h) (Or.inl ⟨by rfl, ?_⟩) (by assumption) ?_
      rotate_left
      · intro wz hSw
        (try dsimp only at hSw)
        go_simp
        (try with_reducible rfl)
      (try simp only [Act.put, List.getElem_toArray, List.getElem_cons_zero, List.getElem_cons_succ, List.setIfInBounds_toArray, List.set_cons_zero, List.set_cons_succ])
      refine wpAnyH_take (i := 32) (v := ?_) rfl (by kernel_rfl) (by kernel_rfl) (by kernel_rfl) (fun _ _ _ h => h) (Or.inl ⟨by rfl, ?_⟩) (by assumption) ?_
      rotate_left
      · intro wz hSw
        (try dsimp only at hSw)
        go_simp
        (try with_reducible rfl)
      (try simp only [Act.put, List.getElem_toArray, List.getElem_cons_zero, List.getElem_cons_succ, List.setIfInBounds_toArray, List.set_cons_zero, List.set_cons_succ])
      refine wpAnyH_take (i := 33) (v := ?_) rfl (by kernel_rfl) (by kernel_rfl) (by kernel_rfl) (fun _ _ _ h => h) (Or.inl ⟨by rfl, ?_⟩) (by assumption) ?_
      rotate_left
      · intro wz hSw
        (try dsimp only at hSw)
        go_simp
        (try with_reducible rfl)
      (try simp only [Act.put, List.getElem_toArray, List.getElem_cons_zero, List.getElem_cons_succ, List.setIfInBounds_toArray, List.set_cons_zero, List.set_cons_succ])
      refine wpAnyH_ready (rs := [34]) (by kernel_rfl) (by simp) ?_
      refine AllReadyH.cons rfl (fun K hK => ?_) AllReadyH.nil
      go_simp
      have m_ := TK4; clear m_ TK4; go_at_call 45; refine (likeProfiles9_same _ _ _ _ _ _ _ _ _ _ _ (Y.out.below (BB.out.trans (show Below w20.heap.size w24 _ from Below.mono (B := w24.heap.size) (by first | exact Below.refl _ _ | (go_grown; done) | exact bdrewN (Below.refl _ _) _ | exact bdrewN (by go_grown) _) zb24)) (Nat.le_refl _)) (Z.out.below (BB.out.trans (show Below w20.heap.size w24 _ from Below.mono (B := w24.heap.size) (by first | exact Below.refl _ _ | (go_grown; done) | exact bdrewN (Below.refl _ _) _ | exact bdrewN (by go_grown) _) zb24)) (Nat.le_refl _))).mono ?_; rintro e_ w25 ⟨rfl, hb25⟩; obtain ⟨hc25, hf25⟩ := bcellW hb25; have hz25 := hb25.size; (try simp only [World.size_alloc, World.size_drew, size_set] at hz25); (try simp only [World.size_alloc, World.size_drew, size_set] at hc25); (try simp only [World.size_alloc, World.size_drew, size_set] at hf25); have l25_0 : w3.heap.size < w25.heap.size := (by omega); have l25_1 : w5.heap.size < w25.heap.size := (by omega); have l25_2 : w7.heap.size < w25.heap.size := (by omega); have l25_3 : w8.heap.size < w25.heap.size := (by omega); have l25_4 : w9.heap.size < w25.heap.size := (by omega); have l25_5 : w10.heap.size < w25.heap.size := (by omega); have l25_6 : w11.heap.size < w25.heap.size := (by omega); have zb25 : w20.heap.size ≤ w25.heap.size := (by omega); have BB := Lib.hid ((BB.out.trans (show Below w20.heap.size w24 _ from Below.mono (B := w24.heap.size) (by first | exact Below.refl _ _ | (go_grown; done) | exact bdrewN (Below.refl _ _) _ | exact bdrewN (by go_grown) _) zb24)).trans (hb25.mono (by first | omega | (simp; done) | (simp; omega)))); clear hb25
      (try go_wp2_with fail)
      refine hK.out _ _ ?_ (fun hHeld2 => ?_)
      · (try dsimp only); (first | (go_keep; done) | (simp [*, go_sem]; done))
      clear hK K hHeld
      have hHeld := hHeld2; clear hHeld2
      (try simp only [Act.put, List.getElem_toArray, List.getElem_cons_zero, List.getElem_cons_succ, List.setIfInBounds_toArray, List.set_cons_zero, List.set_cons_succ])
      refine wpAnyH_take (i := 35) (v := ?_) rfl (by kernel_rfl) (by kernel_rfl) (by kernel_rfl) (fun _ _ _ h => h) (Or.inl ⟨by rfl, ?_⟩) (by assumption) ?_
      rotate_left
      · intro wz hSw
        (try dsimp only at hSw)
        go_simp
        (try with_reducible rfl)
      (try simp only [Act.put, List.getElem_toArray, List.getElem_cons_zero, List.getElem_cons_succ, List.setIfInBounds_toArray, List.set_cons_zero, List.set_cons_succ])
      refine wpAnyH_take (i := 36) (v := ?_) rfl (by kernel_rfl) (by kernel_rfl) (by kernel_rfl) (fun _ _ _ h => h) (Or.inl ⟨by rfl, ?_⟩) (by assumption) ?_
      rotate_left
      · intro wz hSw
        (try dsimp only at hSw)
        go_simp
        (try with_reducible rfl)
      (try simp only [Act.put, List.getElem_toArray, List.getElem_cons_zero, List.getElem_cons_succ, List.setIfInBounds_toArray, List.set_cons_zero, List.set_cons_succ])
      refine wpAnyH_take (i := 37) (v := ?_) rfl (by kernel_rfl) (by kernel_rfl) (by kernel_rfl) (fun _ _ _ h => h) (Or.inl ⟨by rfl, ?_⟩) (by assumption) ?_
      rotate_left
      · intro wz hSw
        (try dsimp only at hSw)
        go_simp
        (try with_reducible rfl)
      (try simp only [Act.put, List.getElem_toArray, List.getElem_cons_zero, List.getElem_cons_succ, List.setIfInBounds_toArray, List.set_cons_zero, List.set_cons_succ])
      refine wpAnyH_take (i := 38) (v := ?_) rfl (by kernel_rfl) (by kernel_rfl) (by kernel_rfl) (fun _ _ _ h => h) (Or.inl ⟨by rfl, ?_⟩) (by assumption) ?_
      rotate_left
      · intro wz hSw
        (try dsimp only at hSw)
        go_simp
        (try with_reducible rfl)
      (try simp only [Act.put, List.getElem_toArray, List.getElem_cons_zero, List.getElem_cons_succ, List.setIfInBounds_toArray, List.set_cons_zero, List.set_cons_succ])
      refine wpAnyH_take (i := 39) (v := ?_) rfl (by kernel_rfl) (by kernel_rfl) (by kernel_rfl) (fun _ _ _ h => h) (Or.inl ⟨by rfl, ?_⟩) (by assumption) ?_
      rotate_left
      · intro wz hSw
        (try dsimp only at hSw)
        go_simp
        (try with_reducible rfl)
      (try simp only [Act.put, List.getElem_toArray, List.getElem_cons_zero, List.getElem_cons_succ, List.setIfInBounds_toArray, List.set_cons_zero, List.set_cons_succ])
      refine wpAnyH_take (i := 40) (v := ?_) rfl (by kernel_rfl) (by kernel_rfl) (by kernel_rfl) (fun _ _ _ h => h) (Or.inl ⟨by rfl, ?_⟩) (by assumption) ?_
      rotate_left
      · intro wz hSw
        (try dsimp only at hSw)
        go_simp
        (try with_reducible rfl)
      (try simp only [Act.put, List.getElem_toArray, List.getElem_cons_zero, List.getElem_cons_succ, List.setIfInBounds_toArray, List.set_cons_zero, List.set_cons_succ])
      refine wpAnyH_take (i := 41) (v := ?_) rfl (by kernel_rfl) (by kernel_rfl) (by kernel_rfl) (fun _ _ _ h => h) (Or.inl ⟨by rfl, ?_⟩) (by assumption) ?_
      rotate_left
      · intro wz hSw
        (try dsimp only at hSw)
        go_simp
        (try with_reducible rfl)
      (try simp only [Act.put, List.getElem_toArray, List.getElem_cons_zero, List.getElem_cons_succ, List.setIfInBounds_toArray, List.set_cons_zero, List.set_cons_succ])
      refine wpAnyH_take (i := 42) (v := ?_) rfl (by kernel_rfl) (by kernel_rfl) (by kernel_rfl) (fun _ _ _ h => h) (Or.inl ⟨by rfl, ?_⟩) (by assumption) ?_
      rotate_left
      · intro wz hSw
        (try dsimp only at hSw)
        go_simp
        (try with_reducible rfl)
      (try simp only [Act.put, List.getElem_toArray, List.getElem_cons_zero, List.getElem_cons_succ, List.setIfInBounds_toArray, List.set_cons_zero, List.set_cons_succ])
      refine wpAnyH_take (i := 43) (v := ?_) rfl (by kernel_rfl) (by kernel_rfl) (by kernel_rfl) (fun _ _ _ h => h) (Or.inl ⟨by rfl, ?_⟩) (by assumption) ?_
      rotate_left
      · intro wz hSw
        (try dsimp only at hSw)
        go_simp
        (try with_reducible rfl)
      (try simp only [Act.put, List.getElem_toArray, List.getElem_cons_zero, List.getElem_cons_succ, List.setIfInBounds_toArray, List.set_cons_zero, List.set_cons_succ])
      refine wpAnyH_take (i := 44) (v := ?_) rfl (by kernel_rfl) (by kernel_rfl) (by kernel_rfl) (fun _ _ _ h => h) (Or.inl ⟨by rfl, ?_⟩) (by assumption) ?_
      rotate_left
      · intro wz hSw
        (try dsimp only at hSw)
        go_simp
        (try with_reducible rfl)
      (try simp only [Act.put, List.getElem_toArray, List.getElem_cons_zero, List.getElem_cons_succ, List.setIfInBounds_toArray, List.set_cons_zero, List.set_cons_succ])
      refine wpAnyH_ready (rs := [45]) (by kernel_rfl) (by simp) ?_
      refine AllReadyH.cons rfl (fun K hK => ?_) AllReadyH.nil
      go_simp
      have m_ := TK5; clear m_ TK5; go_at_call 45; refine (likeProfiles9_same _ _ _ _ _ _ _ _ _ _ _ (C.out.below (BB.out.trans (show Below w20.heap.size w25 _ from Below.mono (B := w25.heap.size) (by first | exact Below.refl _ _ | (go_grown; done) | exact bdrewN (Below.refl _ _) _ | exact bdrewN (by go_grown) _) zb25)) (Nat.le_refl _)) (M.out.below (BB.out.trans (show Below w20.heap.size w25 _ from Below.mono (B := w25.heap.size) (by first | exact Below.refl _ _ | (go_grown; done) | exact bdrewN (Below.refl _ _) _ | exact bdrewN (by go_grown) _) zb25)) (Nat.le_refl _))).mono ?_; rintro e_ w26 ⟨rfl, hb26⟩; obtain ⟨hc26, hf26⟩ := bcellW hb26; have hz26 := hb26.size; (try simp only [World.size_alloc, World.size_drew, size_set] at hz26); (try simp only [World.size_alloc, World.size_drew, size_set] at hc26); (try simp only [World.size_alloc, World.size_drew, size_set] at hf26); have l26_0 : w3.heap.size < w26.heap.size := (by omega); have l26_1 : w5.heap.size < w26.heap.size := (by omega); have l26_2 : w7.heap.size < w26.heap.size := (by omega); have l26_3 : w8.heap.size < w26.heap.size := (by omega); have l26_4 : w9.heap.size < w26.heap.size := (by omega); have l26_5 : w10.heap.size < w26.heap.size := (by omega); have l26_6 : w11.heap.size < w26.heap.size := (by omega); have zb26 : w20.heap.size ≤ w26.heap.size := (by omega); have BB := Lib.hid ((BB.out.trans (show Below w20.heap.size w25 _ from Below.mono (B := w25.heap.size) (by first | exact Below.refl _ _ | (go_grown; done) | exact bdrewN (Below.refl _ _) _ | exact bdrewN (by go_grown) _) zb25)).trans (hb26.mono (by first | omega | (simp; done) | (simp; omega)))); clear hb26
      (try go_wp2_with fail)
      refine hK.out _ _ ?_ (fun hHeld2 => ?_)
      · (try dsimp only); (first | (go_keep; done) | (simp [*, go_sem]; done))
      clear hK K hHeld
      have hHeld := hHeld2; clear hHeld2
      (try simp only [Act.put, List.getElem_toArray, List.getElem_cons_zero, List.getElem_cons_succ, List.setIfInBounds_toArray, List.set_cons_zero, List.set_cons_succ])
      refine wpAnyH_take (i := 46) (v := ?_) rfl (by kernel_rfl) (by kernel_rfl) (by kernel_rfl) (fun _ _ _ h => h) (Or.inl ⟨by rfl, ?_⟩) (by assumption) ?_
      rotate_left
      · intro wz hSw
        (try dsimp only at hSw)
        go_simp
        (try with_reducible rfl)
      (try simp only [Act.put, List.getElem_toArray, List.getElem_cons_zero, List.getElem_cons_succ, List.setIfInBounds_toArray, List.set_cons_zero, List.set_cons_succ])
      refine wpAnyH_take (i := 47) (v := ?_) rfl (by kernel_rfl) (by kernel_rfl) (by kernel_rfl) (fun _ _ _ h => h) (Or.inl ⟨by rfl, ?_⟩) (by assumption) ?_
      rotate_left
      · intro wz hSw
        (try dsimp only at hSw)
        go_simp
        (try with_reducible rfl)
      (try simp only [Act.put, List.getElem_toArray, List.getElem_cons_zero, List.getElem_cons_succ, List.setIfInBounds_toArray, List.set_cons_zero, List.set_cons_succ])
      refine wpAnyH_done (by kernel_rfl) ?_ _
      go_wp2_with fail
      refine genP (S := fun w' => Below w3.heap.size w3 w' ∧ w9.heap.size < w'.heap.size ∧ w10.heap.size < w'.heap.size ∧ w'.cell? ⟨w9.heap.size, 0, none⟩ = some (.slice Q1 (List.length ds) q1_) ∧ w'.cell? ⟨w9.heap.size, 1, none⟩ = some (.slice Q2 (List.length ss) q2_) ∧ w'.cell? ⟨w10.heap.size, 0, none⟩ = some (.slice D10 (List.length (ctD ds ss kn)) d10) ∧ w'.cell? ⟨w10.heap.size, 1, none⟩ = some (.slice D10x (List.length (ctS ds ss kn)) d10x) ∧ ProfAt w' Q1 q1_ Q2 q2_ ds ss ∧ ProfAt w' D10 d10 D10x d10x (ctD ds ss kn) (ctS ds ss kn)) ⟨B20.out.trans (Below.mono (show Below w20.heap.size w20 _ from (by have hb_ := BB.out; first | with_reducible exact hb_ | exact bdrewN hb_ _ | (go_grown; done) | (go_grown <;> exact bdrewN hb_ _))) B20.out.size), by first | omega | (simp; done) | (simp; omega), by first | omega | (simp; done) | (simp; omega), by simp [*, go_sem], by simp [*, go_sem], by simp [*, go_sem], by simp [*, go_sem], (Q.out.below (B := w20.heap.size) (by have hb_ := BB.out; first | with_reducible exact hb_ | exact bdrewN hb_ _ | (go_grown; done) | (go_grown <;> exact bdrewN hb_ _)) (Nat.le_refl _)), (C.out.below (B := w20.heap.size) (by have hb_ := BB.out; first | with_reducible exact hb_ | exact bdrewN hb_ _ | (go_grown; done) | (go_grown <;> exact bdrewN hb_ _)) (Nat.le_refl _))⟩ ?_
      clear B20 BB P X Y Z Q C M k0 k1 k2 k3 k4 k5 k6 k7 k8 k9 k10 k11 k12 k13 lb0 lb1 lb2 lb3 lb4 lb5 lb6 hc21 hf21 hz21 zb21 hc22 hf22 hz22 zb22 hc23 hf23 hz23 zb23 hc24 hf24 hz24 zb24 hc25 hf25 hz25 zb25 hc26 hf26 hz26 zb26 l21_0 l21_1 l21_2 l21_3 l21_4 l21_5 l21_6 l22_0 l22_1 l22_2 l22_3 l22_4 l22_5 l22_6 l23_0 l23_1 l23_2 l23_3 l23_4 l23_5 l23_6 l24_0 l24_1 l24_2 l24_3 l24_4 l24_5 l24_6 l25_0 l25_1 l25_2 l25_3 l25_4 l25_5 l25_6 l26_0 l26_1 l26_2 l26_3 l26_4 l26_5 l26_6
      rintro w30 ⟨b30, m0, m1, k0, k1, k2, k3, rQ, rC⟩
      have B30 := Lib.hid b30; have Q := Lib.hid rQ; have C := Lib.hid rC; clear b30 rQ rC
      by_cases hz : ctC ds ss kn = 0
      · obtain ⟨hv, e1, kn0, kn1, ln, l12⟩ := cut_is hz
        obtain ⟨j, rfl⟩ := Int.eq_ofNat_of_zero_le kn0
        rw [Int.toNat_natCast] at e1 ln
        obtain ⟨b1, o1, x1_, rfl, hb1, -, -⟩ := at_zero Q.out.1 (by omega)
        have hcap := Q.out.1.1
        have C1 := Lib.hid (show ∀ W, Below w30.heap.size w30 W → Calls Tryd.prog 43 #[profV D10 (ctD ds ss j).length d10 D10x (ctS ds ss j).length d10x] W fun e w' => e = .returned (.bool true) ∧ Below W.heap.size W w' from fun W h => by have q := implIsProfile_any _ _ _ _ _ _ W (C.out.1.below h (Nat.le_refl _)) (C.out.2.below h (Nat.le_refl _)); rw [hv] at q; exact q)
        have C2 := Lib.hid (show ∀ W, Below w30.heap.size w30 W → Calls Tryd.prog 46 #[.slice D10 (ctD ds ss j).length d10, .slice (some ⟨b1, o1, none⟩) (j + 1) q1_] W fun e w' => e = .returned (.bool true) ∧ Below W.heap.size W w' from fun W h => by have a := C.out.1.below h (Nat.le_refl _); rw [e1] at a; have q := likeInts_same _ _ _ _ _ W a ((Q.out.1.below h (Nat.le_refl _)).take (j + 1)); rw [e1]; rw [ln] at q ⊢; exact q)
        have kk0 : (0 : Int) ≤ (j : Int) + 1 := by omega
        have kk1 : (j : Int) + 1 ≤ (q1_ : Int) := by omega
        have kk3 : j + 1 ≤ q1_ := by omega
        have kk7 : ((j : Int) + 1).toNat = j + 1 := by omega
        have W0 : IntKind.i64.wrap ((j : Int) + 1) = (j : Int) + 1 := IntWalk.i64_in _ (by omega)
        clear hv e1 ln kn1 l12 hb1 hcap
        go_region_held3 (fun w' => w'.cell? ⟨w9.heap.size, 0, none⟩ = some (.slice (some ⟨b1, o1, none⟩) (List.length ds) q1_) ∧ w'.cell? ⟨w9.heap.size, 1, none⟩ = some (.slice Q2 (List.length ss) q2_) ∧ w'.cell? ⟨w10.heap.size, 0, none⟩ = some (.slice D10 (List.length (ctD ds ss (j : Int))) d10) ∧ w'.cell? ⟨w10.heap.size, 1, none⟩ = some (.slice D10x (List.length (ctS ds ss (j : Int))) d10x)) (first | (go_keep; done) | (simp [*, go_sem]; done))
          (first
            | (go_at_call 43; refine (C1.out _ (show Below w30.heap.size w30 _ from (by first | exact Below.refl _ _ | (go_grown; done) | exact bdrewN (Below.refl _ _) _ | exact bdrewN (by go_grown) _))).mono ?_; rintro e_ w31 ⟨rfl, hb31⟩; obtain ⟨hc31, hf31⟩ := bcellW hb31; have hz31 := hb31.size; (try simp only [World.size_alloc, World.size_drew, size_set] at hz31); (try simp only [World.size_alloc, World.size_drew, size_set] at hc31); (try simp only [World.size_alloc, World.size_drew, size_set] at hf31); have l31_0 : w9.heap.size < w31.heap.size := (by omega); have l31_1 : w10.heap.size < w31.heap.size := (by omega); have BB := Lib.hid ((show Below w30.heap.size w30 _ from (by first | exact Below.refl _ _ | (go_grown; done) | exact bdrewN (Below.refl _ _) _ | exact bdrewN (by go_grown) _)).trans (hb31.mono (by first | omega | (simp; done) | (simp; omega)))); clear hb31)
            | (have m_ := BB; clear m_; go_at_call 46; refine (C2.out _ (BB.out.trans (show Below w30.heap.size w31 _ from Below.mono (B := w31.heap.size) (by first | exact Below.refl _ _ | (go_grown; done) | exact bdrewN (Below.refl _ _) _ | exact bdrewN (by go_grown) _) (by omega)))).mono ?_; rintro e_ w32 ⟨rfl, hb32⟩; obtain ⟨hc32, hf32⟩ := bcellW hb32; have hz32 := hb32.size; (try simp only [World.size_alloc, World.size_drew, size_set] at hz32); (try simp only [World.size_alloc, World.size_drew, size_set] at hc32); (try simp only [World.size_alloc, World.size_drew, size_set] at hf32); have l32_0 : w9.heap.size < w32.heap.size := (by omega); have l32_1 : w10.heap.size < w32.heap.size := (by omega); have BB := Lib.hid ((BB.out.trans (show Below w30.heap.size w31 _ from Below.mono (B := w31.heap.size) (by first | exact Below.refl _ _ | (go_grown; done) | exact bdrewN (Below.refl _ _) _ | exact bdrewN (by go_grown) _) (by omega))).trans (hb32.mono (by first | omega | (simp; done) | (simp; omega)))); clear hb32))
        all_goals go_wp2
        all_goals go_ret
        all_goals exact ⟨rfl, B3.out.trans (Below.mono (show Below w3.heap.size w3 _ from B30.out.trans (Below.mono (show Below w30.heap.size w30 _ from (by have hb_ := BB.out; first | with_reducible exact hb_ | exact bdrewN hb_ _ | (go_grown; done) | (go_grown <;> exact bdrewN hb_ _))) B30.out.size)) B3.out.size)⟩
      · have hz2 : (ctC ds ss kn != 0) = true := by simpa using hz
        go_region
        all_goals go_wp2
        all_goals go_ret
        all_goals exact ⟨rfl, B3.out.trans (Below.mono (show Below w3.heap.size w3 _ from (by have hb_ := B30.out; first | with_reducible exact hb_ | exact bdrewN hb_ _ | (go_grown; done))) B3.out.size)⟩
end Go.Proofs.YtebdokpokbcgjaaDoor
