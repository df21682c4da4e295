/- ConflictPairs, by the program. -/
import Derived.Test.YtbbnnahjghlnoaaCpS
import Derived.Test.YtbbnnahjghlnoaaCut
import Derived.Deep.DeepCutAuto
namespace Go.Proofs.Ytbbnnahjghlnoaa
set_option linter.unusedSimpArgs false
set_option linter.unusedVariables false
open Go.RowKit

theorem bounds_al (a b d e : Int) (w : World) (g1 : -2000 ≤ d) (g2 : d ≤ 1000000) (g3 : 0 ≤ e) (g4 : e ≤ 5000) :
    Calls Try.prog 38 #[sndV a b d e] w fun e_ w' => e_ = .returned (ivV (d - e) (d + e)) ∧ ∃ o1 o2 : Obj, w' = (w.alloc o1).alloc o2 := by
  go_enter Try.func38, Try.ntmps38
  go_wp2
  go_returns
  exact ⟨rfl, _, _, rfl⟩
theorem al_cell {W : World} {o : Obj} {a : Addr} {v : Value} (h : W.cell? a = some v) : (W.alloc o).cell? a = some v := by
  rw [World.cell?_alloc_some W a o (by rw [h]; rfl)]; exact h
theorem st_cell {W : World} {p a : Addr} {u v : Value} (hn : p.block ≠ a.block) (h : W.cell? a = some v) : (W.setCell p u).cell? a = some v := by
  rw [World.cell?_setCell_far W p a u hn]; exact h
theorem lay_ {T P : Prop} (h : T) (k : T → P) : P := k h
theorem genS1 {P S : World → Prop} {w0 : World} (h0 : S w0) (h : ∀ w, S w → P w) : P w0 := h w0 h0
theorem field_one {w : World} (r : Int) : IntsAt (w.alloc (.cells #[.int .i64 r] 2)) (some ⟨w.heap.size, 0, none⟩) 1 [r] :=
  ⟨by simp, by omega, .inr ⟨_, _, rfl, by simp, fun i z hz => by rcases i with _ | i <;> simp at hz <;> subst hz <;> simp⟩⟩
/-- a block that is not the row's, behind an append -/
theorem gkeep1 {W w6 : World} {row : Option Nat} {xb : Nat} (hg : W.grownBy w6 row) (h : row ≠ some xb) (hx : xb < W.heap.size) : xb < w6.heap.size ∧ ∀ o, w6.cell? ⟨xb, o, none⟩ = W.cell? ⟨xb, o, none⟩ :=
  ⟨Nat.lt_of_lt_of_le hx hg.size, fun o => World.cell?_of_block (w := W) (hg.block xb hx (fun e => h e.symm))⟩
set_option maxRecDepth 100000 in
set_option maxHeartbeats 8000000 in
theorem implConflict_any (A : Option Addr) (c : Nat) (xs : List Snd) (r : Int) (w : World) (hx : SndsAt w A c xs) :
    Calls Try.prog 9 #[.slice A xs.length c, .int .i64 r] w fun e w' =>
      (∃ A' c', e = .returned (.tuple #[.slice A' (cpL xs r).length c', .int .i64 (cpE xs r)]) ∧ ResPP w' w.heap.size w'.heap.size A' c' (cpL xs r)) ∧ Below w.heap.size w w' := by
  have hn := Nat.le_trans hx.1 hx.2.1
  have HX := Lib.hid hx; clear hx
  by_cases hv : sndsB xs = true
  · by_cases hr : inB r 0 10000 = true
    · have HE := Lib.hid (cp_ok hv hr)
      have h200 := snds_len hv
      obtain ⟨br1, br2⟩ := inB_bd hr
      have HV := Lib.hid hv
      have hf : [r].all (inB · 0 10000) = true := by simp [hr]
      go_enter Try.func9, Try.ntmps9
      go_wp2_with (first | (go_at_call 36; refine (implAreSoundings_any _ _ _ _ HX.out).mono ?_; rintro e w1 ⟨rfl, hb1⟩; obtain ⟨B1, hz1, q1, s1, t1, x1, y1, z1⟩ := bkeep (w := w) [] (by first | (simp; done) | (simp; omega)) (by first | (go_grown; done) | exact bdrewN (by go_grown) _) hb1; (try simp at hz1); clear hb1) | (go_at_call 37; refine (isField_any _ _ [r] _ (field_one r)).mono ?_; rintro e w' ⟨rfl, rfl⟩))
      go_loopw [6, 23] (fun o i wr => Below w.heap.size w wr ∧ ∃ k : Nat, k ≤ xs.length ∧ i = .int .i64 k ∧ OwnP wr w.heap.size 40 o (cpTo xs r k)) (fun _ i _ => xs.length - (intOf i).toNat)
      case atStart => exact ⟨by first | (go_grown; done) | exact bdrewN (by go_grown) _, 0, by omega, rfl, OwnP.none_ _ _ _⟩
      case round =>
        obtain ⟨Br, i, hi, rfl, hown⟩ := hrel
        obtain ⟨bs, ⟨A', c', rfl, hc', how, hall⟩, hin, hne⟩ := id hown
        have hbl : (bs.map prE).length = bs.length := by rw [List.length_map]
        rw [hbl] at hown ⊢
        have HP := Lib.hid hown
        by_cases hlt : i < xs.length
        · have hvo : (Value.slice A' bs.length c').ownBlock ≠ some wr.heap.size := fun q => by rw [hbl] at how; have := how.lt _ q; omega
          clear hown how hall hin hne hbl
          obtain ⟨wo, hwo⟩ : ∃ x : World, x = wr := ⟨_, rfl⟩
          subst hwo
          have tro := bold Br; have sro := Br.size
          obtain ⟨b0, off0, a, b, d, e, hA, hb0, hxi, p0, p1, p2, p3⟩ := HX.out.at_ hlt
          subst hA
          have s0 := (tro _ _ hb0).trans p0
          have s1 := (tro _ _ hb0).trans p1
          have s2 := (tro _ _ hb0).trans p2
          have s3 := (tro _ _ hb0).trans p3
          clear tro p0 p1 p2 p3
          have HBo := Lib.hid Br; clear Br
          obtain ⟨e1, e2, e3, e4⟩ := snd_xy HV.out hxi; obtain ⟨g1, g2, g3, g4⟩ := snd_bd HV.out hxi
          have XI := Lib.hid hxi; clear hxi
          have hi0 : (0 : Int) ≤ (i : Int) := Int.natCast_nonneg _
          have hi1 : (i : Int) < (xs.length : Int) := by omega
          go_wp2
          go_loopw [6, 9] (fun o k wr => Below w.heap.size w wr ∧ ∃ j : Nat, i + 1 ≤ j ∧ j ≤ xs.length ∧ k = .int .i64 j ∧ OwnP wr w.heap.size 40 o (cpMid xs r i (j - (i + 1))) ∧ o.ownBlock ≠ some wo.heap.size ∧ wo.heap.size < wr.heap.size ∧ wr.cell? ⟨wo.heap.size, 0, none⟩ = some (.int .i64 a) ∧ wr.cell? ⟨wo.heap.size, 1, none⟩ = some (.int .i64 b) ∧ wr.cell? ⟨wo.heap.size, 2, none⟩ = some (.int .i64 d) ∧ wr.cell? ⟨wo.heap.size, 3, none⟩ = some (.int .i64 e)) (fun _ k _ => xs.length - (intOf k).toNat)
          case atStart => exact ⟨by have hb_ := HBo.out; go_grown, i + 1, by omega, by omega, by go_num, by rw [Nat.sub_self, cpMid_zero]; exact HP.out.below (B := wo.heap.size) (by first | (go_grown; done) | exact Below.alloc (Below.refl _ _) (Nat.le_refl _) _) (Nat.le_refl _), hvo, by first | omega | (simp; done) | (simp; omega), by simp [*, go_sem], by simp [*, go_sem], by simp [*, go_sem], by simp [*, go_sem]⟩
          case round =>
            clear s0 s1 s2 s3
            obtain ⟨Br, j, hj0, hj, rfl, hown, hvs, hsb, x0, x1, x2, x3⟩ := hrel
            obtain ⟨bs, ⟨A', c', rfl, hc', how, hall⟩, hin, hne⟩ := id hown
            have hbl : (bs.map prE).length = bs.length := by rw [List.length_map]
            have hbl2 : bs.length ≤ 40200 := by rw [hin.len]; exact cpMid_len h200 (by omega) (by omega)
            rw [hbl] at how hown hne hvs ⊢
            have HP := Lib.hid hown; have HO := Lib.hid how; have HI := Lib.hid hin; have HN := Lib.hid hne; have HBr := Lib.hid Br; have tr := bold Br; have sr := Br.size; have HVS := Lib.hid hvs
            clear hown how hall hin hne Br hvs
            by_cases hlt2 : j < xs.length
            · obtain ⟨b0', off0', a', b', d', e', hA', hb0', hxj, p4, p5, p6, p7⟩ := HX.out.at_ hlt2
              simp only [Option.some.injEq, Addr.mk.injEq, and_true] at hA'; obtain ⟨rfl, rfl⟩ := hA'
              obtain ⟨f1, f2, f3, f4⟩ := snd_xy HV.out hxj
              obtain ⟨g5, g6, g7, g8⟩ := snd_bd HV.out hxj
              have hj1 : (0 : Int) ≤ (j : Int) := Int.natCast_nonneg _
              have hj2 : (j : Int) < (xs.length : Int) := by omega
              have c4 := (tr _ _ hb0).trans p4
              have c5 := (tr _ _ hb0).trans p5
              have c6 := (tr _ _ hb0).trans p6
              have c7 := (tr _ _ hb0).trans p7
              have XJ := Lib.hid (show xs[i + 1 + (j - (i + 1))]? = some ⟨a', b', d', e'⟩ by rw [show i + 1 + (j - (i + 1)) = j by omega]; exact hxj)
              have je : i + 1 + (j - (i + 1)) = j := by omega
              have js : j + 1 - (i + 1) = j - (i + 1) + 1 := by omega
              have JE := Lib.hid je; have JS := Lib.hid js
              clear hxj p4 p5 p6 p7 je js tr
              have lb0 : b0 < wr.heap.size := by omega
              have nb0 : b0 ≠ wo.heap.size := by omega
              have WNG := Lib.hid (show ∀ W, Calls Try.prog 39 #[sndV a b d e, .int .i64 a', .int .i64 b', .int .i64 r] W fun e_ w' => e_ = .returned (.bool (decide ((a - a') * (a - a') + (b - b') * (b - b') ≤ r * r))) ∧ Below W.heap.size W w' from fun W => isNear_any a b d e a' b' r W e1 e2 e3 e4 f1 f2 f3 f4 br1 br2)
              have HB1 := Lib.hid (show ∀ W, Calls Try.prog 38 #[.agg #[.int .i64 a, .int .i64 b, .int .i64 d, .int .i64 e]] W fun e_ w' => e_ = .returned (ivV (d - e) (d + e)) ∧ ∃ o1 o2 : Obj, w' = (W.alloc o1).alloc o2 from fun W => bounds_al a b d e W g1 g2 g3 g4)
              have HB2 := Lib.hid (show ∀ W, Calls Try.prog 38 #[.agg #[.int .i64 a', .int .i64 b', .int .i64 d', .int .i64 e']] W fun e_ w' => e_ = .returned (ivV (d' - e') (d' + e')) ∧ ∃ o1 o2 : Obj, w' = (W.alloc o1).alloc o2 from fun W => bounds_al a' b' d' e' W g5 g6 g7 g8)
              have GG := Lib.hid (show (-2000 ≤ d ∧ d ≤ 1000000 ∧ 0 ≤ e ∧ e ≤ 5000) ∧ (-2000 ≤ d' ∧ d' ≤ 1000000 ∧ 0 ≤ e' ∧ e' ≤ 5000) from ⟨⟨g1, g2, g3, g4⟩, ⟨g5, g6, g7, g8⟩⟩)
              clear e1 e2 e3 e4 f1 f2 f3 f4 g1 g2 g3 g4 g5 g6 g7 g8
              go_upto_region 12 with fail
              refine genS1 (S := fun w' => Below wr.heap.size wr w' ∧ b0 < w'.heap.size ∧ wo.heap.size < w'.heap.size ∧ w'.cell? ⟨wo.heap.size, 0, none⟩ = some (.int .i64 a) ∧ w'.cell? ⟨wo.heap.size, 1, none⟩ = some (.int .i64 b) ∧ w'.cell? ⟨wo.heap.size, 2, none⟩ = some (.int .i64 d) ∧ w'.cell? ⟨wo.heap.size, 3, none⟩ = some (.int .i64 e) ∧ w'.cell? ⟨b0, off0 + j * 4, none⟩ = some (.int .i64 a') ∧ w'.cell? ⟨b0, off0 + j * 4 + 1, none⟩ = some (.int .i64 b') ∧ w'.cell? ⟨b0, off0 + j * 4 + 2, none⟩ = some (.int .i64 d') ∧ w'.cell? ⟨b0, off0 + j * 4 + 3, none⟩ = some (.int .i64 e')) ⟨by first | exact Below.refl _ _ | exact bdrewN (Below.refl _ _) _ | (go_grown; done), by first | omega | (simp; done) | (simp; omega), by first | omega | (simp; done) | (simp; omega), by simp [*, go_sem], by simp [*, go_sem], by simp [*, go_sem], by simp [*, go_sem], by simp [*, go_sem], by simp [*, go_sem], by simp [*, go_sem], by simp [*, go_sem]⟩ ?_
              clear x0 x1 x2 x3 c4 c5 c6 c7 hsb lb0
              rintro w3 ⟨bb3, lt3_0, lt3_1, k0, k1, k2, k3, k4, k5, k6, k7⟩
              have BB3 := Lib.hid bb3; have B3 := Lib.hid (HBr.out.trans (bb3.mono (show w.heap.size ≤ wr.heap.size by omega))); have hz3 := bb3.size; clear bb3
              have ne3b0 : (b0 = w3.heap.size) = False := eq_false (by omega); have nf3b0 : (w3.heap.size = b0) = False := eq_false (by omega)
              have ne3b1 : (b0 = w3.heap.size + 1) = False := eq_false (by omega); have nf3b1 : (w3.heap.size + 1 = b0) = False := eq_false (by omega)
              have ne3b2 : (b0 = w3.heap.size + 1 + 1) = False := eq_false (by omega); have nf3b2 : (w3.heap.size + 1 + 1 = b0) = False := eq_false (by omega)
              have nd3b2 : (b0 = w3.heap.size + 2) = False := eq_false (by omega); have nc3b2 : (w3.heap.size + 2 = b0) = False := eq_false (by omega)
              have ne3b3 : (b0 = w3.heap.size + 1 + 1 + 1) = False := eq_false (by omega); have nf3b3 : (w3.heap.size + 1 + 1 + 1 = b0) = False := eq_false (by omega)
              have nd3b3 : (b0 = w3.heap.size + 3) = False := eq_false (by omega); have nc3b3 : (w3.heap.size + 3 = b0) = False := eq_false (by omega)
              have ne3b4 : (b0 = w3.heap.size + 1 + 1 + 1 + 1) = False := eq_false (by omega); have nf3b4 : (w3.heap.size + 1 + 1 + 1 + 1 = b0) = False := eq_false (by omega)
              have nd3b4 : (b0 = w3.heap.size + 4) = False := eq_false (by omega); have nc3b4 : (w3.heap.size + 4 = b0) = False := eq_false (by omega)
              have ne3b5 : (b0 = w3.heap.size + 1 + 1 + 1 + 1 + 1) = False := eq_false (by omega); have nf3b5 : (w3.heap.size + 1 + 1 + 1 + 1 + 1 = b0) = False := eq_false (by omega)
              have nd3b5 : (b0 = w3.heap.size + 5) = False := eq_false (by omega); have nc3b5 : (w3.heap.size + 5 = b0) = False := eq_false (by omega)
              have ne3s0 : (wo.heap.size = w3.heap.size) = False := eq_false (by omega); have nf3s0 : (w3.heap.size = wo.heap.size) = False := eq_false (by omega)
              have ne3s1 : (wo.heap.size = w3.heap.size + 1) = False := eq_false (by omega); have nf3s1 : (w3.heap.size + 1 = wo.heap.size) = False := eq_false (by omega)
              have ne3s2 : (wo.heap.size = w3.heap.size + 1 + 1) = False := eq_false (by omega); have nf3s2 : (w3.heap.size + 1 + 1 = wo.heap.size) = False := eq_false (by omega)
              have nd3s2 : (wo.heap.size = w3.heap.size + 2) = False := eq_false (by omega); have nc3s2 : (w3.heap.size + 2 = wo.heap.size) = False := eq_false (by omega)
              have ne3s3 : (wo.heap.size = w3.heap.size + 1 + 1 + 1) = False := eq_false (by omega); have nf3s3 : (w3.heap.size + 1 + 1 + 1 = wo.heap.size) = False := eq_false (by omega)
              have nd3s3 : (wo.heap.size = w3.heap.size + 3) = False := eq_false (by omega); have nc3s3 : (w3.heap.size + 3 = wo.heap.size) = False := eq_false (by omega)
              have ne3s4 : (wo.heap.size = w3.heap.size + 1 + 1 + 1 + 1) = False := eq_false (by omega); have nf3s4 : (w3.heap.size + 1 + 1 + 1 + 1 = wo.heap.size) = False := eq_false (by omega)
              have nd3s4 : (wo.heap.size = w3.heap.size + 4) = False := eq_false (by omega); have nc3s4 : (w3.heap.size + 4 = wo.heap.size) = False := eq_false (by omega)
              have ne3s5 : (wo.heap.size = w3.heap.size + 1 + 1 + 1 + 1 + 1) = False := eq_false (by omega); have nf3s5 : (w3.heap.size + 1 + 1 + 1 + 1 + 1 = wo.heap.size) = False := eq_false (by omega)
              have nd3s5 : (wo.heap.size = w3.heap.size + 5) = False := eq_false (by omega); have nc3s5 : (w3.heap.size + 5 = wo.heap.size) = False := eq_false (by omega)
              go_cut [10, 11] (fun p1 p2 wx => ∃ rb1 rb2, p1 = .pointer (some ⟨rb1, 0, none⟩) ∧ p2 = .pointer (some ⟨rb2, 0, none⟩) ∧ Below w3.heap.size w3 wx ∧ w3.heap.size ≤ rb1 ∧ rb1 < wx.heap.size ∧ w3.heap.size ≤ rb2 ∧ rb2 < wx.heap.size ∧ wx.cell? ⟨rb1, 0, none⟩ = some (.int .i64 (d - e)) ∧ wx.cell? ⟨rb1, 1, none⟩ = some (.int .i64 (d + e)) ∧ wx.cell? ⟨rb2, 0, none⟩ = some (.int .i64 (d' - e')) ∧ wx.cell? ⟨rb2, 1, none⟩ = some (.int .i64 (d' + e')))
              case first =>
                go_region_held3 (fun w' => w'.cell? ⟨wo.heap.size, 0, none⟩ = some (.int .i64 a) ∧ w'.cell? ⟨wo.heap.size, 1, none⟩ = some (.int .i64 b) ∧ w'.cell? ⟨wo.heap.size, 2, none⟩ = some (.int .i64 d) ∧ w'.cell? ⟨wo.heap.size, 3, none⟩ = some (.int .i64 e) ∧ w'.cell? ⟨b0, off0 + j * 4, none⟩ = some (.int .i64 a') ∧ w'.cell? ⟨b0, off0 + j * 4 + 1, none⟩ = some (.int .i64 b') ∧ w'.cell? ⟨b0, off0 + j * 4 + 2, none⟩ = some (.int .i64 d') ∧ w'.cell? ⟨b0, off0 + j * 4 + 3, none⟩ = some (.int .i64 e')) ((refine ⟨?_, ?_, ?_, ?_, ?_, ?_, ?_, ?_⟩) <;> (try simp only [World.cell?_drew, World.cell?_drewN]) <;> (repeat (first | with_reducible assumption | (with_reducible refine al_cell ?_) | (refine st_cell (by first | (dsimp only; omega) | (simp; omega)) ?_))))
                  (first
                    | (go_at_call 38; with_reducible refine (HB1.out _).mono ?_; rintro e_ w' ⟨rfl, p1, q1, rfl⟩)
                    | (go_at_call 38; with_reducible refine (HB2.out _).mono ?_; rintro e_ w' ⟨rfl, p2, q2, rfl⟩))
                all_goals go_wp2_with fail
                all_goals go_meet
                all_goals exact ⟨_, _, rfl, rfl, (by first | (go_grown; done) | exact bdrewN (by go_grown) _), by first | omega | (simp; done) | (simp; omega), by first | omega | (simp; done) | (simp; omega), by first | omega | (simp; done) | (simp; omega), by first | omega | (simp; done) | (simp; omega), by simp [*, go_sem], by simp [*, go_sem], by simp [*, go_sem], by simp [*, go_sem]⟩
              case rest =>
                obtain ⟨rb1, rb2, rfl, rfl, hF⟩ := hcut
                revert hF; generalize wc = w4; rintro ⟨hb4, lo4_0, hi4_0, lo4_1, hi4_1, cc4_0_0, cc4_0_1, cc4_1_0, cc4_1_1⟩
                have z4 := hb4.size
                have m0 := (bAt hb4 (b := wo.heap.size) (o := 0) lt3_1).trans k0
                have m1 := (bAt hb4 (b := wo.heap.size) (o := 1) lt3_1).trans k1
                have m2 := (bAt hb4 (b := wo.heap.size) (o := 2) lt3_1).trans k2
                have m3 := (bAt hb4 (b := wo.heap.size) (o := 3) lt3_1).trans k3
                have m4 := (bAt hb4 (b := b0) (o := off0 + j * 4) lt3_0).trans k4
                have m5 := (bAt hb4 (b := b0) (o := off0 + j * 4 + 1) lt3_0).trans k5
                have m6 := (bAt hb4 (b := b0) (o := off0 + j * 4 + 2) lt3_0).trans k6
                have m7 := (bAt hb4 (b := b0) (o := off0 + j * 4 + 3) lt3_0).trans k7
                have BB := Lib.hid (BB3.out.trans (hb4.mono (show wr.heap.size ≤ w3.heap.size by omega))); clear hb4 k0 k1 k2 k3 k4 k5 k6 k7
                have ls4 : wo.heap.size < w4.heap.size := by omega
                have lb4 : b0 < w4.heap.size := by omega
                obtain ⟨⟨g1, g2, g3, g4⟩, g5, g6, g7, g8⟩ := GG.out
                go_wp2_with fail
                by_cases hn : (a - a') * (a - a') + (b - b') * (b - b') ≤ r * r
                · by_cases h1 : d + e < d' - e'
                  · have HY := Lib.hid (show cpMid xs r i (j + 1 - (i + 1)) = cpMid xs r i (j - (i + 1)) ++ [((i : Int), (j : Int))] by rw [JS.out, cpMid_yes XI.out XJ.out (by simp [cpB, hn, h1]), JE.out])
                    have WN := Lib.hid (show ∀ W, Calls Try.prog 39 #[sndV a b d e, .int .i64 a', .int .i64 b', .int .i64 r] W fun e_ w' => e_ = .returned (.bool true) ∧ Below W.heap.size W w' from fun W => by have q := WNG.out W; rw [decide_eq_true hn] at q; exact q)
                    have Th1 : decide (d + e < d' - e') = true := decide_eq_true h1
                    clear WNG hn h1
                    refine wp_region_held_drew (S := fun w' => w'.cell? ⟨wo.heap.size, 0, none⟩ = some (.int .i64 a) ∧ w'.cell? ⟨wo.heap.size, 1, none⟩ = some (.int .i64 b) ∧ w'.cell? ⟨wo.heap.size, 2, none⟩ = some (.int .i64 d) ∧ w'.cell? ⟨wo.heap.size, 3, none⟩ = some (.int .i64 e) ∧ w'.cell? ⟨b0, off0 + j * 4, none⟩ = some (.int .i64 a') ∧ w'.cell? ⟨b0, off0 + j * 4 + 1, none⟩ = some (.int .i64 b') ∧ w'.cell? ⟨b0, off0 + j * 4 + 2, none⟩ = some (.int .i64 d') ∧ w'.cell? ⟨b0, off0 + j * 4 + 3, none⟩ = some (.int .i64 e') ∧ w'.cell? ⟨rb1, 0, none⟩ = some (.int .i64 (d - e)) ∧ w'.cell? ⟨rb1, 1, none⟩ = some (.int .i64 (d + e)) ∧ w'.cell? ⟨rb2, 0, none⟩ = some (.int .i64 (d' - e')) ∧ w'.cell? ⟨rb2, 1, none⟩ = some (.int .i64 (d' + e'))) (by kernel_rfl) ?_ (fun hHeld => ?_)
                    · (try dsimp only); (first | (go_keep; done) | (simp [*, go_sem]; done))
                    refine wpAnyH_take (i := 0) (v := ?_) rfl (by kernel_rfl) (by kernel_rfl) (by kernel_rfl) (fun _ _ _ h => h) (Or.inl ⟨by rfl, ?_⟩) (by assumption) ?_
                    rotate_left
                    · intro wz hSw
                      (try dsimp only at hSw)
                      go_simp
                      (try with_reducible rfl)
                    (try simp only [Act.put, List.getElem_toArray, List.getElem_cons_zero, List.getElem_cons_succ, List.setIfInBounds_toArray, List.set_cons_zero, List.set_cons_succ])
                    refine wpAnyH_take (i := 1) (v := ?_) rfl (by kernel_rfl) (by kernel_rfl) (by kernel_rfl) (fun _ _ _ h => h) (Or.inl ⟨by rfl, ?_⟩) (by assumption) ?_
                    rotate_left
                    · intro wz hSw
                      (try dsimp only at hSw)
                      go_simp
                      (try with_reducible rfl)
                    (try simp only [Act.put, List.getElem_toArray, List.getElem_cons_zero, List.getElem_cons_succ, List.setIfInBounds_toArray, List.set_cons_zero, List.set_cons_succ])
                    refine wpAnyH_take (i := 2) (v := ?_) rfl (by kernel_rfl) (by kernel_rfl) (by kernel_rfl) (fun _ _ _ h => h) (Or.inl ⟨by rfl, ?_⟩) (by assumption) ?_
                    rotate_left
                    · intro wz hSw
                      (try dsimp only at hSw)
                      go_simp
                      (try with_reducible rfl)
                    (try simp only [Act.put, List.getElem_toArray, List.getElem_cons_zero, List.getElem_cons_succ, List.setIfInBounds_toArray, List.set_cons_zero, List.set_cons_succ])
                    refine wpAnyH_take (i := 3) (v := ?_) rfl (by kernel_rfl) (by kernel_rfl) (by kernel_rfl) (fun _ _ _ h => h) (Or.inl ⟨by rfl, ?_⟩) (by assumption) ?_
                    rotate_left
                    · intro wz hSw
                      (try dsimp only at hSw)
                      go_simp
                      (try with_reducible rfl)
                    (try simp only [Act.put, List.getElem_toArray, List.getElem_cons_zero, List.getElem_cons_succ, List.setIfInBounds_toArray, List.set_cons_zero, List.set_cons_succ])
                    refine wpAnyH_take (i := 4) (v := ?_) rfl (by kernel_rfl) (by kernel_rfl) (by kernel_rfl) (fun _ _ _ h => h) (Or.inl ⟨by rfl, ?_⟩) (by assumption) ?_
                    rotate_left
                    · intro wz hSw
                      (try dsimp only at hSw)
                      go_simp
                      (try with_reducible rfl)
                    (try simp only [Act.put, List.getElem_toArray, List.getElem_cons_zero, List.getElem_cons_succ, List.setIfInBounds_toArray, List.set_cons_zero, List.set_cons_succ])
                    refine wpAnyH_take (i := 5) (v := ?_) rfl (by kernel_rfl) (by kernel_rfl) (by kernel_rfl) (fun _ _ _ h => h) (Or.inl ⟨by rfl, ?_⟩) (by assumption) ?_
                    rotate_left
                    · intro wz hSw
                      (try dsimp only at hSw)
                      go_simp
                      (try with_reducible rfl)
                    (try simp only [Act.put, List.getElem_toArray, List.getElem_cons_zero, List.getElem_cons_succ, List.setIfInBounds_toArray, List.set_cons_zero, List.set_cons_succ])
                    refine wpAnyH_take (i := 6) (v := ?_) rfl (by kernel_rfl) (by kernel_rfl) (by kernel_rfl) (fun _ _ _ h => h) (Or.inl ⟨by rfl, ?_⟩) (by assumption) ?_
                    rotate_left
                    · intro wz hSw
                      (try dsimp only at hSw)
                      go_simp
                      (try with_reducible rfl)
                    (try simp only [Act.put, List.getElem_toArray, List.getElem_cons_zero, List.getElem_cons_succ, List.setIfInBounds_toArray, List.set_cons_zero, List.set_cons_succ])
                    refine wpAnyH_take (i := 7) (v := ?_) rfl (by kernel_rfl) (by kernel_rfl) (by kernel_rfl) (fun _ _ _ h => h) (Or.inl ⟨by rfl, ?_⟩) (by assumption) ?_
                    rotate_left
                    · intro wz hSw
                      (try dsimp only at hSw)
                      go_simp
                      (try with_reducible rfl)
                    (try simp only [Act.put, List.getElem_toArray, List.getElem_cons_zero, List.getElem_cons_succ, List.setIfInBounds_toArray, List.set_cons_zero, List.set_cons_succ])
                    refine wpAnyH_take (i := 8) (v := ?_) rfl (by kernel_rfl) (by kernel_rfl) (by kernel_rfl) (fun _ _ _ h => h) (Or.inl ⟨by rfl, ?_⟩) (by assumption) ?_
                    rotate_left
                    · intro wz hSw
                      (try dsimp only at hSw)
                      go_simp
                      (try with_reducible rfl)
                    (try simp only [Act.put, List.getElem_toArray, List.getElem_cons_zero, List.getElem_cons_succ, List.setIfInBounds_toArray, List.set_cons_zero, List.set_cons_succ])
                    refine wpAnyH_take (i := 9) (v := ?_) rfl (by kernel_rfl) (by kernel_rfl) (by kernel_rfl) (fun _ _ _ h => h) (Or.inl ⟨by rfl, ?_⟩) (by assumption) ?_
                    rotate_left
                    · intro wz hSw
                      (try dsimp only at hSw)
                      go_simp
                      (try with_reducible rfl)
                    (try simp only [Act.put, List.getElem_toArray, List.getElem_cons_zero, List.getElem_cons_succ, List.setIfInBounds_toArray, List.set_cons_zero, List.set_cons_succ])
                    refine wpAnyH_take (i := 10) (v := ?_) rfl (by kernel_rfl) (by kernel_rfl) (by kernel_rfl) (fun _ _ _ h => h) (Or.inl ⟨by rfl, ?_⟩) (by assumption) ?_
                    rotate_left
                    · intro wz hSw
                      (try dsimp only at hSw)
                      go_simp
                      (try with_reducible rfl)
                    (try simp only [Act.put, List.getElem_toArray, List.getElem_cons_zero, List.getElem_cons_succ, List.setIfInBounds_toArray, List.set_cons_zero, List.set_cons_succ])
                    refine wpAnyH_take (i := 11) (v := ?_) rfl (by kernel_rfl) (by kernel_rfl) (by kernel_rfl) (fun _ _ _ h => h) (Or.inl ⟨by rfl, ?_⟩) (by assumption) ?_
                    rotate_left
                    · intro wz hSw
                      (try dsimp only at hSw)
                      go_simp
                      (try with_reducible rfl)
                    (try simp only [Act.put, List.getElem_toArray, List.getElem_cons_zero, List.getElem_cons_succ, List.setIfInBounds_toArray, List.set_cons_zero, List.set_cons_succ])
                    refine wpAnyH_ready (rs := [12]) (by kernel_rfl) (by simp) ?_
                    refine AllReadyH.cons rfl (fun K hK => ?_) AllReadyH.nil
                    go_simp
                    go_at_call 39; refine (WN.out _).mono ?_; rintro e w33 ⟨rfl, hb33⟩; obtain ⟨hc33, hf33⟩ := bcell2 hb33; have hz33 := hb33.size; (try simp only [World.size_alloc, World.size_drew, size_set] at hz33); (try simp only [World.size_alloc, World.size_drew, size_set] at hc33); (try simp only [World.size_alloc, World.size_drew, size_set] at hf33); have ly33_0 : b0 < w33.heap.size := (by omega); have ly33_1 : wo.heap.size < w33.heap.size := (by omega); have ly33_2 : rb1 < w33.heap.size := (by omega); have ly33_3 : rb2 < w33.heap.size := (by omega); have BB := Lib.hid ((BB.out.trans (show Below wr.heap.size w4 _ from Below.mono (B := w4.heap.size) (by first | exact Below.refl _ _ | (go_grown; done)) (by omega))).trans (hb33.mono (by first | omega | (simp; done) | (simp; omega)))); clear hb33
                    (try go_wp2_with fail)
                    refine hK.out _ _ ?_ (fun hHeld2 => ?_)
                    · (try dsimp only); (first | (go_keep; done) | (simp [*, go_sem]; done))
                    clear hK K hHeld
                    (try simp only [Act.put, List.getElem_toArray, List.getElem_cons_zero, List.getElem_cons_succ, List.setIfInBounds_toArray, List.set_cons_zero, List.set_cons_succ])
                    refine wpAnyH_take (i := 13) (v := ?_) rfl (by kernel_rfl) (by kernel_rfl) (by kernel_rfl) (fun _ _ _ h => h) (Or.inl ⟨by rfl, ?_⟩) (by assumption) ?_
                    rotate_left
                    · intro wz hSw
                      (try dsimp only at hSw)
                      go_simp
                      (try with_reducible rfl)
                    (try simp only [Act.put, List.getElem_toArray, List.getElem_cons_zero, List.getElem_cons_succ, List.setIfInBounds_toArray, List.set_cons_zero, List.set_cons_succ])
                    refine wpAnyH_take (i := 14) (v := ?_) rfl (by kernel_rfl) (by kernel_rfl) (by kernel_rfl) (fun _ _ _ h => h) (Or.inl ⟨by rfl, ?_⟩) (by assumption) ?_
                    rotate_left
                    · intro wz hSw
                      (try dsimp only at hSw)
                      go_simp
                      (try with_reducible rfl)
                    (try simp only [Act.put, List.getElem_toArray, List.getElem_cons_zero, List.getElem_cons_succ, List.setIfInBounds_toArray, List.set_cons_zero, List.set_cons_succ])
                    refine wpAnyH_take (i := 15) (v := ?_) rfl (by kernel_rfl) (by kernel_rfl) (by kernel_rfl) (fun _ _ _ h => h) (Or.inl ⟨by rfl, ?_⟩) (by assumption) ?_
                    rotate_left
                    · intro wz hSw
                      (try dsimp only at hSw)
                      go_simp
                      (try with_reducible rfl)
                    (try simp only [Act.put, List.getElem_toArray, List.getElem_cons_zero, List.getElem_cons_succ, List.setIfInBounds_toArray, List.set_cons_zero, List.set_cons_succ])
                    refine wpAnyH_take (i := 16) (v := ?_) rfl (by kernel_rfl) (by kernel_rfl) (by kernel_rfl) (fun _ _ _ h => h) (Or.inl ⟨by rfl, ?_⟩) (by assumption) ?_
                    rotate_left
                    · intro wz hSw
                      (try dsimp only at hSw)
                      go_simp
                      (try with_reducible rfl)
                    (try simp only [Act.put, List.getElem_toArray, List.getElem_cons_zero, List.getElem_cons_succ, List.setIfInBounds_toArray, List.set_cons_zero, List.set_cons_succ])
                    refine wpAnyH_take (i := 17) (v := ?_) rfl (by kernel_rfl) (by kernel_rfl) (by kernel_rfl) (fun _ _ _ h => h) (Or.inl ⟨by rfl, ?_⟩) (by assumption) ?_
                    rotate_left
                    · intro wz hSw
                      (try dsimp only at hSw)
                      go_simp
                      (try with_reducible rfl)
                    (try simp only [Act.put, List.getElem_toArray, List.getElem_cons_zero, List.getElem_cons_succ, List.setIfInBounds_toArray, List.set_cons_zero, List.set_cons_succ])
                    refine wpAnyH_take (i := 18) (v := ?_) rfl (by kernel_rfl) (by kernel_rfl) (by kernel_rfl) (fun _ _ _ h => h) (Or.inl ⟨by rfl, ?_⟩) (by assumption) ?_
                    rotate_left
                    · intro wz hSw
                      (try dsimp only at hSw)
                      go_simp
                      (try simp only [Th1])
                      (try with_reducible rfl)
                    (try simp only [Act.put, List.getElem_toArray, List.getElem_cons_zero, List.getElem_cons_succ, List.setIfInBounds_toArray, List.set_cons_zero, List.set_cons_succ])
                    refine wpAnyH_take (i := 19) (v := ?_) rfl (by kernel_rfl) (by kernel_rfl) (by kernel_rfl) (fun _ _ _ h => h) (Or.inl ⟨by rfl, ?_⟩) (by assumption) ?_
                    rotate_left
                    · intro wz hSw
                      (try dsimp only at hSw)
                      go_simp
                      (try with_reducible rfl)
                    (try simp only [Act.put, List.getElem_toArray, List.getElem_cons_zero, List.getElem_cons_succ, List.setIfInBounds_toArray, List.set_cons_zero, List.set_cons_succ])
                    refine wpAnyH_take (i := 20) (v := undef) rfl (by kernel_rfl) (by kernel_rfl) (by kernel_rfl) (fun _ _ _ h => h) (Or.inr ⟨by rfl, rfl⟩) (by assumption) ?_
                    (try simp only [Act.put, List.getElem_toArray, List.getElem_cons_zero, List.getElem_cons_succ, List.setIfInBounds_toArray, List.set_cons_zero, List.set_cons_succ])
                    refine wpAnyH_take (i := 21) (v := undef) rfl (by kernel_rfl) (by kernel_rfl) (by kernel_rfl) (fun _ _ _ h => h) (Or.inr ⟨by rfl, rfl⟩) (by assumption) ?_
                    (try simp only [Act.put, List.getElem_toArray, List.getElem_cons_zero, List.getElem_cons_succ, List.setIfInBounds_toArray, List.set_cons_zero, List.set_cons_succ])
                    refine wpAnyH_take (i := 22) (v := undef) rfl (by kernel_rfl) (by kernel_rfl) (by kernel_rfl) (fun _ _ _ h => h) (Or.inr ⟨by rfl, rfl⟩) (by assumption) ?_
                    (try simp only [Act.put, List.getElem_toArray, List.getElem_cons_zero, List.getElem_cons_succ, List.setIfInBounds_toArray, List.set_cons_zero, List.set_cons_succ])
                    refine wpAnyH_take (i := 23) (v := undef) rfl (by kernel_rfl) (by kernel_rfl) (by kernel_rfl) (fun _ _ _ h => h) (Or.inr ⟨by rfl, rfl⟩) (by assumption) ?_
                    (try simp only [Act.put, List.getElem_toArray, List.getElem_cons_zero, List.getElem_cons_succ, List.setIfInBounds_toArray, List.set_cons_zero, List.set_cons_succ])
                    refine wpAnyH_take (i := 24) (v := undef) rfl (by kernel_rfl) (by kernel_rfl) (by kernel_rfl) (fun _ _ _ h => h) (Or.inr ⟨by rfl, rfl⟩) (by assumption) ?_
                    (try simp only [Act.put, List.getElem_toArray, List.getElem_cons_zero, List.getElem_cons_succ, List.setIfInBounds_toArray, List.set_cons_zero, List.set_cons_succ])
                    refine wpAnyH_take (i := 25) (v := ?_) rfl (by kernel_rfl) (by kernel_rfl) (by kernel_rfl) (fun _ _ _ h => h) (Or.inl ⟨by rfl, ?_⟩) (by assumption) ?_
                    rotate_left
                    · intro wz hSw
                      (try dsimp only at hSw)
                      go_simp
                      (try with_reducible rfl)
                    (try simp only [Act.put, List.getElem_toArray, List.getElem_cons_zero, List.getElem_cons_succ, List.setIfInBounds_toArray, List.set_cons_zero, List.set_cons_succ])
                    refine wpAnyH_take (i := 26) (v := ?_) rfl (by kernel_rfl) (by kernel_rfl) (by kernel_rfl) (fun _ _ _ h => h) (Or.inl ⟨by rfl, ?_⟩) (by assumption) ?_
                    rotate_left
                    · intro wz hSw
                      (try dsimp only at hSw)
                      go_simp
                      (try with_reducible rfl)
                    (try simp only [Act.put, List.getElem_toArray, List.getElem_cons_zero, List.getElem_cons_succ, List.setIfInBounds_toArray, List.set_cons_zero, List.set_cons_succ])
                    refine wpAnyH_done (by kernel_rfl) ?_ _
                    all_goals go_wp2_with (at_builtin; refine appG rfl _ _ 24 rfl w.heap.size 40 (.slice none 0 0) 1 24 Try.underlying24 infoInts rfl (by omega) (prE w33.heap.size) rfl (by intro u hu; simp [prE] at hu; subst hu; rfl) _ _ _ rfl _ rfl (own_keep HO.out (Keep.of_below (show Below wr.heap.size wr _ by have hb_ := BB.out; first | exact hb_ | exact bdrewN hb_ _ | (go_grown; done) | (go_grown <;> first | exact hb_ | exact bdrewN hb_ _)))) ?_ ?_ ?_ ?_ ?_; (focus (intro q u hq; match q, hq with | 0, hq => (simp [prE] at hq; subst hq; simp [*, go_sem]) | q + 1, hq => simp [prE] at hq)); (focus (unfold maxLen; omega)); (focus omega); (focus (first | omega | (simp; omega))); intro v6 w6 hown6 hg6 hat6; have OP6 := Lib.hid (OwnP.next (x := (i : Int)) (y := (j : Int)) (bl := w33.heap.size) HY.out HI.out HN.out (Keep.of_below (show Below wr.heap.size wr _ by have hb_ := BB.out; first | exact hb_ | exact bdrewN hb_ _ | (go_grown; done) | (go_grown <;> first | exact hb_ | exact bdrewN hb_ _))) (by omega) (by omega) (by first | omega | (simp; done) | (simp; omega)) (fun q hq => by have := HO.out.lt q hq; omega) (fun o => by simp [*, go_sem]) (by simp [*, go_sem]) (by simp [*, go_sem]) hg6 hat6 rfl hown6); have C6 := Below.grow (B := w.heap.size) (w0 := w) (by have hb_ := HBr.out.trans (BB.out.mono (show w.heap.size ≤ wr.heap.size by omega)); first | exact hb_ | (go_grown; done) | exact bdrewN hb_ _) hg6 (fun q hq => by have := HO.out.lt q hq; omega) (by first | omega | (simp; omega)); have NV := Lib.hid (ne_hat hat6 HVS.out (by first | omega | (simp; done) | (simp; omega))); have SC := Lib.hid (gkeep1 hg6 (xb := wo.heap.size) HVS.out (by first | omega | (simp; done) | (simp; omega))); clear hg6 hat6 hown6)
                    all_goals go_roundw
                    all_goals first | exact ⟨C6, j + 1, by omega, by omega, by go_num, OP6.out, NV.out, SC.out.1, (SC.out.2 0).trans (by simp [*, go_sem]), (SC.out.2 1).trans (by simp [*, go_sem]), (SC.out.2 2).trans (by simp [*, go_sem]), (SC.out.2 3).trans (by simp [*, go_sem])⟩ | (simp [intOf]; omega)
                  · by_cases h2 : d' + e' < d - e
                    · have HY := Lib.hid (show cpMid xs r i (j + 1 - (i + 1)) = cpMid xs r i (j - (i + 1)) ++ [((i : Int), (j : Int))] by rw [JS.out, cpMid_yes XI.out XJ.out (by simp [cpB, hn, h2]), JE.out])
                      have WN := Lib.hid (show ∀ W, Calls Try.prog 39 #[sndV a b d e, .int .i64 a', .int .i64 b', .int .i64 r] W fun e_ w' => e_ = .returned (.bool true) ∧ Below W.heap.size W w' from fun W => by have q := WNG.out W; rw [decide_eq_true hn] at q; exact q)
                      have Th1 : decide (d + e < d' - e') = false := decide_eq_false h1
                      have Th2 : decide (d' + e' < d - e) = true := decide_eq_true h2
                      clear WNG hn h1 h2
                      refine wp_region_held_drew (S := fun w' => w'.cell? ⟨wo.heap.size, 0, none⟩ = some (.int .i64 a) ∧ w'.cell? ⟨wo.heap.size, 1, none⟩ = some (.int .i64 b) ∧ w'.cell? ⟨wo.heap.size, 2, none⟩ = some (.int .i64 d) ∧ w'.cell? ⟨wo.heap.size, 3, none⟩ = some (.int .i64 e) ∧ w'.cell? ⟨b0, off0 + j * 4, none⟩ = some (.int .i64 a') ∧ w'.cell? ⟨b0, off0 + j * 4 + 1, none⟩ = some (.int .i64 b') ∧ w'.cell? ⟨b0, off0 + j * 4 + 2, none⟩ = some (.int .i64 d') ∧ w'.cell? ⟨b0, off0 + j * 4 + 3, none⟩ = some (.int .i64 e') ∧ w'.cell? ⟨rb1, 0, none⟩ = some (.int .i64 (d - e)) ∧ w'.cell? ⟨rb1, 1, none⟩ = some (.int .i64 (d + e)) ∧ w'.cell? ⟨rb2, 0, none⟩ = some (.int .i64 (d' - e')) ∧ w'.cell? ⟨rb2, 1, none⟩ = some (.int .i64 (d' + e'))) (by kernel_rfl) ?_ (fun hHeld => ?_)
                      · (try dsimp only); (first | (go_keep; done) | (simp [*, go_sem]; done))
                      refine wpAnyH_take (i := 0) (v := ?_) rfl (by kernel_rfl) (by kernel_rfl) (by kernel_rfl) (fun _ _ _ h => h) (Or.inl ⟨by rfl, ?_⟩) (by assumption) ?_
                      rotate_left
                      · intro wz hSw
                        (try dsimp only at hSw)
                        go_simp
                        (try with_reducible rfl)
                      (try simp only [Act.put, List.getElem_toArray, List.getElem_cons_zero, List.getElem_cons_succ, List.setIfInBounds_toArray, List.set_cons_zero, List.set_cons_succ])
                      refine wpAnyH_take (i := 1) (v := ?_) rfl (by kernel_rfl) (by kernel_rfl) (by kernel_rfl) (fun _ _ _ h => h) (Or.inl ⟨by rfl, ?_⟩) (by assumption) ?_
                      rotate_left
                      · intro wz hSw
                        (try dsimp only at hSw)
                        go_simp
                        (try with_reducible rfl)
                      (try simp only [Act.put, List.getElem_toArray, List.getElem_cons_zero, List.getElem_cons_succ, List.setIfInBounds_toArray, List.set_cons_zero, List.set_cons_succ])
                      refine wpAnyH_take (i := 2) (v := ?_) rfl (by kernel_rfl) (by kernel_rfl) (by kernel_rfl) (fun _ _ _ h => h) (Or.inl ⟨by rfl, ?_⟩) (by assumption) ?_
                      rotate_left
                      · intro wz hSw
                        (try dsimp only at hSw)
                        go_simp
                        (try with_reducible rfl)
                      (try simp only [Act.put, List.getElem_toArray, List.getElem_cons_zero, List.getElem_cons_succ, List.setIfInBounds_toArray, List.set_cons_zero, List.set_cons_succ])
                      refine wpAnyH_take (i := 3) (v := ?_) rfl (by kernel_rfl) (by kernel_rfl) (by kernel_rfl) (fun _ _ _ h => h) (Or.inl ⟨by rfl, ?_⟩) (by assumption) ?_
                      rotate_left
                      · intro wz hSw
                        (try dsimp only at hSw)
                        go_simp
                        (try with_reducible rfl)
                      (try simp only [Act.put, List.getElem_toArray, List.getElem_cons_zero, List.getElem_cons_succ, List.setIfInBounds_toArray, List.set_cons_zero, List.set_cons_succ])
                      refine wpAnyH_take (i := 4) (v := ?_) rfl (by kernel_rfl) (by kernel_rfl) (by kernel_rfl) (fun _ _ _ h => h) (Or.inl ⟨by rfl, ?_⟩) (by assumption) ?_
                      rotate_left
                      · intro wz hSw
                        (try dsimp only at hSw)
                        go_simp
                        (try with_reducible rfl)
                      (try simp only [Act.put, List.getElem_toArray, List.getElem_cons_zero, List.getElem_cons_succ, List.setIfInBounds_toArray, List.set_cons_zero, List.set_cons_succ])
                      refine wpAnyH_take (i := 5) (v := ?_) rfl (by kernel_rfl) (by kernel_rfl) (by kernel_rfl) (fun _ _ _ h => h) (Or.inl ⟨by rfl, ?_⟩) (by assumption) ?_
                      rotate_left
                      · intro wz hSw
                        (try dsimp only at hSw)
                        go_simp
                        (try with_reducible rfl)
                      (try simp only [Act.put, List.getElem_toArray, List.getElem_cons_zero, List.getElem_cons_succ, List.setIfInBounds_toArray, List.set_cons_zero, List.set_cons_succ])
                      refine wpAnyH_take (i := 6) (v := ?_) rfl (by kernel_rfl) (by kernel_rfl) (by kernel_rfl) (fun _ _ _ h => h) (Or.inl ⟨by rfl, ?_⟩) (by assumption) ?_
                      rotate_left
                      · intro wz hSw
                        (try dsimp only at hSw)
                        go_simp
                        (try with_reducible rfl)
                      (try simp only [Act.put, List.getElem_toArray, List.getElem_cons_zero, List.getElem_cons_succ, List.setIfInBounds_toArray, List.set_cons_zero, List.set_cons_succ])
                      refine wpAnyH_take (i := 7) (v := ?_) rfl (by kernel_rfl) (by kernel_rfl) (by kernel_rfl) (fun _ _ _ h => h) (Or.inl ⟨by rfl, ?_⟩) (by assumption) ?_
                      rotate_left
                      · intro wz hSw
                        (try dsimp only at hSw)
                        go_simp
                        (try with_reducible rfl)
                      (try simp only [Act.put, List.getElem_toArray, List.getElem_cons_zero, List.getElem_cons_succ, List.setIfInBounds_toArray, List.set_cons_zero, List.set_cons_succ])
                      refine wpAnyH_take (i := 8) (v := ?_) rfl (by kernel_rfl) (by kernel_rfl) (by kernel_rfl) (fun _ _ _ h => h) (Or.inl ⟨by rfl, ?_⟩) (by assumption) ?_
                      rotate_left
                      · intro wz hSw
                        (try dsimp only at hSw)
                        go_simp
                        (try with_reducible rfl)
                      (try simp only [Act.put, List.getElem_toArray, List.getElem_cons_zero, List.getElem_cons_succ, List.setIfInBounds_toArray, List.set_cons_zero, List.set_cons_succ])
                      refine wpAnyH_take (i := 9) (v := ?_) rfl (by kernel_rfl) (by kernel_rfl) (by kernel_rfl) (fun _ _ _ h => h) (Or.inl ⟨by rfl, ?_⟩) (by assumption) ?_
                      rotate_left
                      · intro wz hSw
                        (try dsimp only at hSw)
                        go_simp
                        (try with_reducible rfl)
                      (try simp only [Act.put, List.getElem_toArray, List.getElem_cons_zero, List.getElem_cons_succ, List.setIfInBounds_toArray, List.set_cons_zero, List.set_cons_succ])
                      refine wpAnyH_take (i := 10) (v := ?_) rfl (by kernel_rfl) (by kernel_rfl) (by kernel_rfl) (fun _ _ _ h => h) (Or.inl ⟨by rfl, ?_⟩) (by assumption) ?_
                      rotate_left
                      · intro wz hSw
                        (try dsimp only at hSw)
                        go_simp
                        (try with_reducible rfl)
                      (try simp only [Act.put, List.getElem_toArray, List.getElem_cons_zero, List.getElem_cons_succ, List.setIfInBounds_toArray, List.set_cons_zero, List.set_cons_succ])
                      refine wpAnyH_take (i := 11) (v := ?_) rfl (by kernel_rfl) (by kernel_rfl) (by kernel_rfl) (fun _ _ _ h => h) (Or.inl ⟨by rfl, ?_⟩) (by assumption) ?_
                      rotate_left
                      · intro wz hSw
                        (try dsimp only at hSw)
                        go_simp
                        (try with_reducible rfl)
                      (try simp only [Act.put, List.getElem_toArray, List.getElem_cons_zero, List.getElem_cons_succ, List.setIfInBounds_toArray, List.set_cons_zero, List.set_cons_succ])
                      refine wpAnyH_ready (rs := [12]) (by kernel_rfl) (by simp) ?_
                      refine AllReadyH.cons rfl (fun K hK => ?_) AllReadyH.nil
                      go_simp
                      go_at_call 39; refine (WN.out _).mono ?_; rintro e w33 ⟨rfl, hb33⟩; obtain ⟨hc33, hf33⟩ := bcell2 hb33; have hz33 := hb33.size; (try simp only [World.size_alloc, World.size_drew, size_set] at hz33); (try simp only [World.size_alloc, World.size_drew, size_set] at hc33); (try simp only [World.size_alloc, World.size_drew, size_set] at hf33); have ly33_0 : b0 < w33.heap.size := (by omega); have ly33_1 : wo.heap.size < w33.heap.size := (by omega); have ly33_2 : rb1 < w33.heap.size := (by omega); have ly33_3 : rb2 < w33.heap.size := (by omega); have BB := Lib.hid ((BB.out.trans (show Below wr.heap.size w4 _ from Below.mono (B := w4.heap.size) (by first | exact Below.refl _ _ | (go_grown; done)) (by omega))).trans (hb33.mono (by first | omega | (simp; done) | (simp; omega)))); clear hb33
                      (try go_wp2_with fail)
                      refine hK.out _ _ ?_ (fun hHeld2 => ?_)
                      · (try dsimp only); (first | (go_keep; done) | (simp [*, go_sem]; done))
                      clear hK K hHeld
                      (try simp only [Act.put, List.getElem_toArray, List.getElem_cons_zero, List.getElem_cons_succ, List.setIfInBounds_toArray, List.set_cons_zero, List.set_cons_succ])
                      refine wpAnyH_take (i := 13) (v := ?_) rfl (by kernel_rfl) (by kernel_rfl) (by kernel_rfl) (fun _ _ _ h => h) (Or.inl ⟨by rfl, ?_⟩) (by assumption) ?_
                      rotate_left
                      · intro wz hSw
                        (try dsimp only at hSw)
                        go_simp
                        (try with_reducible rfl)
                      (try simp only [Act.put, List.getElem_toArray, List.getElem_cons_zero, List.getElem_cons_succ, List.setIfInBounds_toArray, List.set_cons_zero, List.set_cons_succ])
                      refine wpAnyH_take (i := 14) (v := ?_) rfl (by kernel_rfl) (by kernel_rfl) (by kernel_rfl) (fun _ _ _ h => h) (Or.inl ⟨by rfl, ?_⟩) (by assumption) ?_
                      rotate_left
                      · intro wz hSw
                        (try dsimp only at hSw)
                        go_simp
                        (try with_reducible rfl)
                      (try simp only [Act.put, List.getElem_toArray, List.getElem_cons_zero, List.getElem_cons_succ, List.setIfInBounds_toArray, List.set_cons_zero, List.set_cons_succ])
                      refine wpAnyH_take (i := 15) (v := ?_) rfl (by kernel_rfl) (by kernel_rfl) (by kernel_rfl) (fun _ _ _ h => h) (Or.inl ⟨by rfl, ?_⟩) (by assumption) ?_
                      rotate_left
                      · intro wz hSw
                        (try dsimp only at hSw)
                        go_simp
                        (try with_reducible rfl)
                      (try simp only [Act.put, List.getElem_toArray, List.getElem_cons_zero, List.getElem_cons_succ, List.setIfInBounds_toArray, List.set_cons_zero, List.set_cons_succ])
                      refine wpAnyH_take (i := 16) (v := ?_) rfl (by kernel_rfl) (by kernel_rfl) (by kernel_rfl) (fun _ _ _ h => h) (Or.inl ⟨by rfl, ?_⟩) (by assumption) ?_
                      rotate_left
                      · intro wz hSw
                        (try dsimp only at hSw)
                        go_simp
                        (try with_reducible rfl)
                      (try simp only [Act.put, List.getElem_toArray, List.getElem_cons_zero, List.getElem_cons_succ, List.setIfInBounds_toArray, List.set_cons_zero, List.set_cons_succ])
                      refine wpAnyH_take (i := 17) (v := ?_) rfl (by kernel_rfl) (by kernel_rfl) (by kernel_rfl) (fun _ _ _ h => h) (Or.inl ⟨by rfl, ?_⟩) (by assumption) ?_
                      rotate_left
                      · intro wz hSw
                        (try dsimp only at hSw)
                        go_simp
                        (try with_reducible rfl)
                      (try simp only [Act.put, List.getElem_toArray, List.getElem_cons_zero, List.getElem_cons_succ, List.setIfInBounds_toArray, List.set_cons_zero, List.set_cons_succ])
                      refine wpAnyH_take (i := 18) (v := ?_) rfl (by kernel_rfl) (by kernel_rfl) (by kernel_rfl) (fun _ _ _ h => h) (Or.inl ⟨by rfl, ?_⟩) (by assumption) ?_
                      rotate_left
                      · intro wz hSw
                        (try dsimp only at hSw)
                        go_simp
                        (try simp only [Th1])
                        (try with_reducible rfl)
                      (try simp only [Act.put, List.getElem_toArray, List.getElem_cons_zero, List.getElem_cons_succ, List.setIfInBounds_toArray, List.set_cons_zero, List.set_cons_succ])
                      refine wpAnyH_take (i := 19) (v := ?_) rfl (by kernel_rfl) (by kernel_rfl) (by kernel_rfl) (fun _ _ _ h => h) (Or.inl ⟨by rfl, ?_⟩) (by assumption) ?_
                      rotate_left
                      · intro wz hSw
                        (try dsimp only at hSw)
                        go_simp
                        (try with_reducible rfl)
                      (try simp only [Act.put, List.getElem_toArray, List.getElem_cons_zero, List.getElem_cons_succ, List.setIfInBounds_toArray, List.set_cons_zero, List.set_cons_succ])
                      refine wpAnyH_take (i := 20) (v := ?_) rfl (by kernel_rfl) (by kernel_rfl) (by kernel_rfl) (fun _ _ _ h => h) (Or.inl ⟨by rfl, ?_⟩) (by assumption) ?_
                      rotate_left
                      · intro wz hSw
                        (try dsimp only at hSw)
                        go_simp
                        (try with_reducible rfl)
                      (try simp only [Act.put, List.getElem_toArray, List.getElem_cons_zero, List.getElem_cons_succ, List.setIfInBounds_toArray, List.set_cons_zero, List.set_cons_succ])
                      refine wpAnyH_take (i := 21) (v := ?_) rfl (by kernel_rfl) (by kernel_rfl) (by kernel_rfl) (fun _ _ _ h => h) (Or.inl ⟨by rfl, ?_⟩) (by assumption) ?_
                      rotate_left
                      · intro wz hSw
                        (try dsimp only at hSw)
                        go_simp
                        (try with_reducible rfl)
                      (try simp only [Act.put, List.getElem_toArray, List.getElem_cons_zero, List.getElem_cons_succ, List.setIfInBounds_toArray, List.set_cons_zero, List.set_cons_succ])
                      refine wpAnyH_take (i := 22) (v := ?_) rfl (by kernel_rfl) (by kernel_rfl) (by kernel_rfl) (fun _ _ _ h => h) (Or.inl ⟨by rfl, ?_⟩) (by assumption) ?_
                      rotate_left
                      · intro wz hSw
                        (try dsimp only at hSw)
                        go_simp
                        (try with_reducible rfl)
                      (try simp only [Act.put, List.getElem_toArray, List.getElem_cons_zero, List.getElem_cons_succ, List.setIfInBounds_toArray, List.set_cons_zero, List.set_cons_succ])
                      refine wpAnyH_take (i := 23) (v := ?_) rfl (by kernel_rfl) (by kernel_rfl) (by kernel_rfl) (fun _ _ _ h => h) (Or.inl ⟨by rfl, ?_⟩) (by assumption) ?_
                      rotate_left
                      · intro wz hSw
                        (try dsimp only at hSw)
                        go_simp
                        (try with_reducible rfl)
                      (try simp only [Act.put, List.getElem_toArray, List.getElem_cons_zero, List.getElem_cons_succ, List.setIfInBounds_toArray, List.set_cons_zero, List.set_cons_succ])
                      refine wpAnyH_take (i := 24) (v := ?_) rfl (by kernel_rfl) (by kernel_rfl) (by kernel_rfl) (fun _ _ _ h => h) (Or.inl ⟨by rfl, ?_⟩) (by assumption) ?_
                      rotate_left
                      · intro wz hSw
                        (try dsimp only at hSw)
                        go_simp
                        (try simp only [Th2])
                        (try with_reducible rfl)
                      (try simp only [Act.put, List.getElem_toArray, List.getElem_cons_zero, List.getElem_cons_succ, List.setIfInBounds_toArray, List.set_cons_zero, List.set_cons_succ])
                      refine wpAnyH_take (i := 25) (v := ?_) rfl (by kernel_rfl) (by kernel_rfl) (by kernel_rfl) (fun _ _ _ h => h) (Or.inl ⟨by rfl, ?_⟩) (by assumption) ?_
                      rotate_left
                      · intro wz hSw
                        (try dsimp only at hSw)
                        go_simp
                        (try with_reducible rfl)
                      (try simp only [Act.put, List.getElem_toArray, List.getElem_cons_zero, List.getElem_cons_succ, List.setIfInBounds_toArray, List.set_cons_zero, List.set_cons_succ])
                      refine wpAnyH_take (i := 26) (v := ?_) rfl (by kernel_rfl) (by kernel_rfl) (by kernel_rfl) (fun _ _ _ h => h) (Or.inl ⟨by rfl, ?_⟩) (by assumption) ?_
                      rotate_left
                      · intro wz hSw
                        (try dsimp only at hSw)
                        go_simp
                        (try with_reducible rfl)
                      (try simp only [Act.put, List.getElem_toArray, List.getElem_cons_zero, List.getElem_cons_succ, List.setIfInBounds_toArray, List.set_cons_zero, List.set_cons_succ])
                      refine wpAnyH_done (by kernel_rfl) ?_ _
                      all_goals go_wp2_with (at_builtin; refine appG rfl _ _ 24 rfl w.heap.size 40 (.slice none 0 0) 1 24 Try.underlying24 infoInts rfl (by omega) (prE w33.heap.size) rfl (by intro u hu; simp [prE] at hu; subst hu; rfl) _ _ _ rfl _ rfl (own_keep HO.out (Keep.of_below (show Below wr.heap.size wr _ by have hb_ := BB.out; first | exact hb_ | exact bdrewN hb_ _ | (go_grown; done) | (go_grown <;> first | exact hb_ | exact bdrewN hb_ _)))) ?_ ?_ ?_ ?_ ?_; (focus (intro q u hq; match q, hq with | 0, hq => (simp [prE] at hq; subst hq; simp [*, go_sem]) | q + 1, hq => simp [prE] at hq)); (focus (unfold maxLen; omega)); (focus omega); (focus (first | omega | (simp; omega))); intro v6 w6 hown6 hg6 hat6; have OP6 := Lib.hid (OwnP.next (x := (i : Int)) (y := (j : Int)) (bl := w33.heap.size) HY.out HI.out HN.out (Keep.of_below (show Below wr.heap.size wr _ by have hb_ := BB.out; first | exact hb_ | exact bdrewN hb_ _ | (go_grown; done) | (go_grown <;> first | exact hb_ | exact bdrewN hb_ _))) (by omega) (by omega) (by first | omega | (simp; done) | (simp; omega)) (fun q hq => by have := HO.out.lt q hq; omega) (fun o => by simp [*, go_sem]) (by simp [*, go_sem]) (by simp [*, go_sem]) hg6 hat6 rfl hown6); have C6 := Below.grow (B := w.heap.size) (w0 := w) (by have hb_ := HBr.out.trans (BB.out.mono (show w.heap.size ≤ wr.heap.size by omega)); first | exact hb_ | (go_grown; done) | exact bdrewN hb_ _) hg6 (fun q hq => by have := HO.out.lt q hq; omega) (by first | omega | (simp; omega)); have NV := Lib.hid (ne_hat hat6 HVS.out (by first | omega | (simp; done) | (simp; omega))); have SC := Lib.hid (gkeep1 hg6 (xb := wo.heap.size) HVS.out (by first | omega | (simp; done) | (simp; omega))); clear hg6 hat6 hown6)
                      all_goals go_roundw
                      all_goals first | exact ⟨C6, j + 1, by omega, by omega, by go_num, OP6.out, NV.out, SC.out.1, (SC.out.2 0).trans (by simp [*, go_sem]), (SC.out.2 1).trans (by simp [*, go_sem]), (SC.out.2 2).trans (by simp [*, go_sem]), (SC.out.2 3).trans (by simp [*, go_sem])⟩ | (simp [intOf]; omega)
                    · have HZ := Lib.hid (show cpMid xs r i (j + 1 - (i + 1)) = cpMid xs r i (j - (i + 1)) by rw [JS.out, cpMid_no XI.out XJ.out (by simp [cpB, h1, h2])])
                      have WN := Lib.hid (show ∀ W, Calls Try.prog 39 #[sndV a b d e, .int .i64 a', .int .i64 b', .int .i64 r] W fun e_ w' => e_ = .returned (.bool true) ∧ Below W.heap.size W w' from fun W => by have q := WNG.out W; rw [decide_eq_true hn] at q; exact q)
                      have Th1 : decide (d + e < d' - e') = false := decide_eq_false h1
                      have Th2 : decide (d' + e' < d - e) = false := decide_eq_false h2
                      clear WNG hn h1 h2
                      refine wp_region_held_drew (S := fun w' => w'.cell? ⟨wo.heap.size, 0, none⟩ = some (.int .i64 a) ∧ w'.cell? ⟨wo.heap.size, 1, none⟩ = some (.int .i64 b) ∧ w'.cell? ⟨wo.heap.size, 2, none⟩ = some (.int .i64 d) ∧ w'.cell? ⟨wo.heap.size, 3, none⟩ = some (.int .i64 e) ∧ w'.cell? ⟨b0, off0 + j * 4, none⟩ = some (.int .i64 a') ∧ w'.cell? ⟨b0, off0 + j * 4 + 1, none⟩ = some (.int .i64 b') ∧ w'.cell? ⟨b0, off0 + j * 4 + 2, none⟩ = some (.int .i64 d') ∧ w'.cell? ⟨b0, off0 + j * 4 + 3, none⟩ = some (.int .i64 e') ∧ w'.cell? ⟨rb1, 0, none⟩ = some (.int .i64 (d - e)) ∧ w'.cell? ⟨rb1, 1, none⟩ = some (.int .i64 (d + e)) ∧ w'.cell? ⟨rb2, 0, none⟩ = some (.int .i64 (d' - e')) ∧ w'.cell? ⟨rb2, 1, none⟩ = some (.int .i64 (d' + e'))) (by kernel_rfl) ?_ (fun hHeld => ?_)
                      · (try dsimp only); (first | (go_keep; done) | (simp [*, go_sem]; done))
                      refine wpAnyH_take (i := 0) (v := ?_) rfl (by kernel_rfl) (by kernel_rfl) (by kernel_rfl) (fun _ _ _ h => h) (Or.inl ⟨by rfl, ?_⟩) (by assumption) ?_
                      rotate_left
                      · intro wz hSw
                        (try dsimp only at hSw)
                        go_simp
                        (try with_reducible rfl)
                      (try simp only [Act.put, List.getElem_toArray, List.getElem_cons_zero, List.getElem_cons_succ, List.setIfInBounds_toArray, List.set_cons_zero, List.set_cons_succ])
                      refine wpAnyH_take (i := 1) (v := ?_) rfl (by kernel_rfl) (by kernel_rfl) (by kernel_rfl) (fun _ _ _ h => h) (Or.inl ⟨by rfl, ?_⟩) (by assumption) ?_
                      rotate_left
                      · intro wz hSw
                        (try dsimp only at hSw)
                        go_simp
                        (try with_reducible rfl)
                      (try simp only [Act.put, List.getElem_toArray, List.getElem_cons_zero, List.getElem_cons_succ, List.setIfInBounds_toArray, List.set_cons_zero, List.set_cons_succ])
                      refine wpAnyH_take (i := 2) (v := ?_) rfl (by kernel_rfl) (by kernel_rfl) (by kernel_rfl) (fun _ _ _ h => h) (Or.inl ⟨by rfl, ?_⟩) (by assumption) ?_
                      rotate_left
                      · intro wz hSw
                        (try dsimp only at hSw)
                        go_simp
                        (try with_reducible rfl)
                      (try simp only [Act.put, List.getElem_toArray, List.getElem_cons_zero, List.getElem_cons_succ, List.setIfInBounds_toArray, List.set_cons_zero, List.set_cons_succ])
                      refine wpAnyH_take (i := 3) (v := ?_) rfl (by kernel_rfl) (by kernel_rfl) (by kernel_rfl) (fun _ _ _ h => h) (Or.inl ⟨by rfl, ?_⟩) (by assumption) ?_
                      rotate_left
                      · intro wz hSw
                        (try dsimp only at hSw)
                        go_simp
                        (try with_reducible rfl)
                      (try simp only [Act.put, List.getElem_toArray, List.getElem_cons_zero, List.getElem_cons_succ, List.setIfInBounds_toArray, List.set_cons_zero, List.set_cons_succ])
                      refine wpAnyH_take (i := 4) (v := ?_) rfl (by kernel_rfl) (by kernel_rfl) (by kernel_rfl) (fun _ _ _ h => h) (Or.inl ⟨by rfl, ?_⟩) (by assumption) ?_
                      rotate_left
                      · intro wz hSw
                        (try dsimp only at hSw)
                        go_simp
                        (try with_reducible rfl)
                      (try simp only [Act.put, List.getElem_toArray, List.getElem_cons_zero, List.getElem_cons_succ, List.setIfInBounds_toArray, List.set_cons_zero, List.set_cons_succ])
                      refine wpAnyH_take (i := 5) (v := ?_) rfl (by kernel_rfl) (by kernel_rfl) (by kernel_rfl) (fun _ _ _ h => h) (Or.inl ⟨by rfl, ?_⟩) (by assumption) ?_
                      rotate_left
                      · intro wz hSw
                        (try dsimp only at hSw)
                        go_simp
                        (try with_reducible rfl)
                      (try simp only [Act.put, List.getElem_toArray, List.getElem_cons_zero, List.getElem_cons_succ, List.setIfInBounds_toArray, List.set_cons_zero, List.set_cons_succ])
                      refine wpAnyH_take (i := 6) (v := ?_) rfl (by kernel_rfl) (by kernel_rfl) (by kernel_rfl) (fun _ _ _ h => h) (Or.inl ⟨by rfl, ?_⟩) (by assumption) ?_
                      rotate_left
                      · intro wz hSw
                        (try dsimp only at hSw)
                        go_simp
                        (try with_reducible rfl)
                      (try simp only [Act.put, List.getElem_toArray, List.getElem_cons_zero, List.getElem_cons_succ, List.setIfInBounds_toArray, List.set_cons_zero, List.set_cons_succ])
                      refine wpAnyH_take (i := 7) (v := ?_) rfl (by kernel_rfl) (by kernel_rfl) (by kernel_rfl) (fun _ _ _ h => h) (Or.inl ⟨by rfl, ?_⟩) (by assumption) ?_
                      rotate_left
                      · intro wz hSw
                        (try dsimp only at hSw)
                        go_simp
                        (try with_reducible rfl)
                      (try simp only [Act.put, List.getElem_toArray, List.getElem_cons_zero, List.getElem_cons_succ, List.setIfInBounds_toArray, List.set_cons_zero, List.set_cons_succ])
                      refine wpAnyH_take (i := 8) (v := ?_) rfl (by kernel_rfl) (by kernel_rfl) (by kernel_rfl) (fun _ _ _ h => h) (Or.inl ⟨by rfl, ?_⟩) (by assumption) ?_
                      rotate_left
                      · intro wz hSw
                        (try dsimp only at hSw)
                        go_simp
                        (try with_reducible rfl)
                      (try simp only [Act.put, List.getElem_toArray, List.getElem_cons_zero, List.getElem_cons_succ, List.setIfInBounds_toArray, List.set_cons_zero, List.set_cons_succ])
                      refine wpAnyH_take (i := 9) (v := ?_) rfl (by kernel_rfl) (by kernel_rfl) (by kernel_rfl) (fun _ _ _ h => h) (Or.inl ⟨by rfl, ?_⟩) (by assumption) ?_
                      rotate_left
                      · intro wz hSw
                        (try dsimp only at hSw)
                        go_simp
                        (try with_reducible rfl)
                      (try simp only [Act.put, List.getElem_toArray, List.getElem_cons_zero, List.getElem_cons_succ, List.setIfInBounds_toArray, List.set_cons_zero, List.set_cons_succ])
                      refine wpAnyH_take (i := 10) (v := ?_) rfl (by kernel_rfl) (by kernel_rfl) (by kernel_rfl) (fun _ _ _ h => h) (Or.inl ⟨by rfl, ?_⟩) (by assumption) ?_
                      rotate_left
                      · intro wz hSw
                        (try dsimp only at hSw)
                        go_simp
                        (try with_reducible rfl)
                      (try simp only [Act.put, List.getElem_toArray, List.getElem_cons_zero, List.getElem_cons_succ, List.setIfInBounds_toArray, List.set_cons_zero, List.set_cons_succ])
                      refine wpAnyH_take (i := 11) (v := ?_) rfl (by kernel_rfl) (by kernel_rfl) (by kernel_rfl) (fun _ _ _ h => h) (Or.inl ⟨by rfl, ?_⟩) (by assumption) ?_
                      rotate_left
                      · intro wz hSw
                        (try dsimp only at hSw)
                        go_simp
                        (try with_reducible rfl)
                      (try simp only [Act.put, List.getElem_toArray, List.getElem_cons_zero, List.getElem_cons_succ, List.setIfInBounds_toArray, List.set_cons_zero, List.set_cons_succ])
                      refine wpAnyH_ready (rs := [12]) (by kernel_rfl) (by simp) ?_
                      refine AllReadyH.cons rfl (fun K hK => ?_) AllReadyH.nil
                      go_simp
                      go_at_call 39; refine (WN.out _).mono ?_; rintro e w33 ⟨rfl, hb33⟩; obtain ⟨hc33, hf33⟩ := bcell2 hb33; have hz33 := hb33.size; (try simp only [World.size_alloc, World.size_drew, size_set] at hz33); (try simp only [World.size_alloc, World.size_drew, size_set] at hc33); (try simp only [World.size_alloc, World.size_drew, size_set] at hf33); have ly33_0 : b0 < w33.heap.size := (by omega); have ly33_1 : wo.heap.size < w33.heap.size := (by omega); have ly33_2 : rb1 < w33.heap.size := (by omega); have ly33_3 : rb2 < w33.heap.size := (by omega); have BB := Lib.hid ((BB.out.trans (show Below wr.heap.size w4 _ from Below.mono (B := w4.heap.size) (by first | exact Below.refl _ _ | (go_grown; done)) (by omega))).trans (hb33.mono (by first | omega | (simp; done) | (simp; omega)))); clear hb33
                      (try go_wp2_with fail)
                      refine hK.out _ _ ?_ (fun hHeld2 => ?_)
                      · (try dsimp only); (first | (go_keep; done) | (simp [*, go_sem]; done))
                      clear hK K hHeld
                      (try simp only [Act.put, List.getElem_toArray, List.getElem_cons_zero, List.getElem_cons_succ, List.setIfInBounds_toArray, List.set_cons_zero, List.set_cons_succ])
                      refine wpAnyH_take (i := 13) (v := ?_) rfl (by kernel_rfl) (by kernel_rfl) (by kernel_rfl) (fun _ _ _ h => h) (Or.inl ⟨by rfl, ?_⟩) (by assumption) ?_
                      rotate_left
                      · intro wz hSw
                        (try dsimp only at hSw)
                        go_simp
                        (try with_reducible rfl)
                      (try simp only [Act.put, List.getElem_toArray, List.getElem_cons_zero, List.getElem_cons_succ, List.setIfInBounds_toArray, List.set_cons_zero, List.set_cons_succ])
                      refine wpAnyH_take (i := 14) (v := ?_) rfl (by kernel_rfl) (by kernel_rfl) (by kernel_rfl) (fun _ _ _ h => h) (Or.inl ⟨by rfl, ?_⟩) (by assumption) ?_
                      rotate_left
                      · intro wz hSw
                        (try dsimp only at hSw)
                        go_simp
                        (try with_reducible rfl)
                      (try simp only [Act.put, List.getElem_toArray, List.getElem_cons_zero, List.getElem_cons_succ, List.setIfInBounds_toArray, List.set_cons_zero, List.set_cons_succ])
                      refine wpAnyH_take (i := 15) (v := ?_) rfl (by kernel_rfl) (by kernel_rfl) (by kernel_rfl) (fun _ _ _ h => h) (Or.inl ⟨by rfl, ?_⟩) (by assumption) ?_
                      rotate_left
                      · intro wz hSw
                        (try dsimp only at hSw)
                        go_simp
                        (try with_reducible rfl)
                      (try simp only [Act.put, List.getElem_toArray, List.getElem_cons_zero, List.getElem_cons_succ, List.setIfInBounds_toArray, List.set_cons_zero, List.set_cons_succ])
                      refine wpAnyH_take (i := 16) (v := ?_) rfl (by kernel_rfl) (by kernel_rfl) (by kernel_rfl) (fun _ _ _ h => h) (Or.inl ⟨by rfl, ?_⟩) (by assumption) ?_
                      rotate_left
                      · intro wz hSw
                        (try dsimp only at hSw)
                        go_simp
                        (try with_reducible rfl)
                      (try simp only [Act.put, List.getElem_toArray, List.getElem_cons_zero, List.getElem_cons_succ, List.setIfInBounds_toArray, List.set_cons_zero, List.set_cons_succ])
                      refine wpAnyH_take (i := 17) (v := ?_) rfl (by kernel_rfl) (by kernel_rfl) (by kernel_rfl) (fun _ _ _ h => h) (Or.inl ⟨by rfl, ?_⟩) (by assumption) ?_
                      rotate_left
                      · intro wz hSw
                        (try dsimp only at hSw)
                        go_simp
                        (try with_reducible rfl)
                      (try simp only [Act.put, List.getElem_toArray, List.getElem_cons_zero, List.getElem_cons_succ, List.setIfInBounds_toArray, List.set_cons_zero, List.set_cons_succ])
                      refine wpAnyH_take (i := 18) (v := ?_) rfl (by kernel_rfl) (by kernel_rfl) (by kernel_rfl) (fun _ _ _ h => h) (Or.inl ⟨by rfl, ?_⟩) (by assumption) ?_
                      rotate_left
                      · intro wz hSw
                        (try dsimp only at hSw)
                        go_simp
                        (try simp only [Th1])
                        (try with_reducible rfl)
                      (try simp only [Act.put, List.getElem_toArray, List.getElem_cons_zero, List.getElem_cons_succ, List.setIfInBounds_toArray, List.set_cons_zero, List.set_cons_succ])
                      refine wpAnyH_take (i := 19) (v := ?_) rfl (by kernel_rfl) (by kernel_rfl) (by kernel_rfl) (fun _ _ _ h => h) (Or.inl ⟨by rfl, ?_⟩) (by assumption) ?_
                      rotate_left
                      · intro wz hSw
                        (try dsimp only at hSw)
                        go_simp
                        (try with_reducible rfl)
                      (try simp only [Act.put, List.getElem_toArray, List.getElem_cons_zero, List.getElem_cons_succ, List.setIfInBounds_toArray, List.set_cons_zero, List.set_cons_succ])
                      refine wpAnyH_take (i := 20) (v := ?_) rfl (by kernel_rfl) (by kernel_rfl) (by kernel_rfl) (fun _ _ _ h => h) (Or.inl ⟨by rfl, ?_⟩) (by assumption) ?_
                      rotate_left
                      · intro wz hSw
                        (try dsimp only at hSw)
                        go_simp
                        (try with_reducible rfl)
                      (try simp only [Act.put, List.getElem_toArray, List.getElem_cons_zero, List.getElem_cons_succ, List.setIfInBounds_toArray, List.set_cons_zero, List.set_cons_succ])
                      refine wpAnyH_take (i := 21) (v := ?_) rfl (by kernel_rfl) (by kernel_rfl) (by kernel_rfl) (fun _ _ _ h => h) (Or.inl ⟨by rfl, ?_⟩) (by assumption) ?_
                      rotate_left
                      · intro wz hSw
                        (try dsimp only at hSw)
                        go_simp
                        (try with_reducible rfl)
                      (try simp only [Act.put, List.getElem_toArray, List.getElem_cons_zero, List.getElem_cons_succ, List.setIfInBounds_toArray, List.set_cons_zero, List.set_cons_succ])
                      refine wpAnyH_take (i := 22) (v := ?_) rfl (by kernel_rfl) (by kernel_rfl) (by kernel_rfl) (fun _ _ _ h => h) (Or.inl ⟨by rfl, ?_⟩) (by assumption) ?_
                      rotate_left
                      · intro wz hSw
                        (try dsimp only at hSw)
                        go_simp
                        (try with_reducible rfl)
                      (try simp only [Act.put, List.getElem_toArray, List.getElem_cons_zero, List.getElem_cons_succ, List.setIfInBounds_toArray, List.set_cons_zero, List.set_cons_succ])
                      refine wpAnyH_take (i := 23) (v := ?_) rfl (by kernel_rfl) (by kernel_rfl) (by kernel_rfl) (fun _ _ _ h => h) (Or.inl ⟨by rfl, ?_⟩) (by assumption) ?_
                      rotate_left
                      · intro wz hSw
                        (try dsimp only at hSw)
                        go_simp
                        (try with_reducible rfl)
                      (try simp only [Act.put, List.getElem_toArray, List.getElem_cons_zero, List.getElem_cons_succ, List.setIfInBounds_toArray, List.set_cons_zero, List.set_cons_succ])
                      refine wpAnyH_take (i := 24) (v := ?_) rfl (by kernel_rfl) (by kernel_rfl) (by kernel_rfl) (fun _ _ _ h => h) (Or.inl ⟨by rfl, ?_⟩) (by assumption) ?_
                      rotate_left
                      · intro wz hSw
                        (try dsimp only at hSw)
                        go_simp
                        (try simp only [Th2])
                        (try with_reducible rfl)
                      (try simp only [Act.put, List.getElem_toArray, List.getElem_cons_zero, List.getElem_cons_succ, List.setIfInBounds_toArray, List.set_cons_zero, List.set_cons_succ])
                      refine wpAnyH_take (i := 25) (v := ?_) rfl (by kernel_rfl) (by kernel_rfl) (by kernel_rfl) (fun _ _ _ h => h) (Or.inl ⟨by rfl, ?_⟩) (by assumption) ?_
                      rotate_left
                      · intro wz hSw
                        (try dsimp only at hSw)
                        go_simp
                        (try with_reducible rfl)
                      (try simp only [Act.put, List.getElem_toArray, List.getElem_cons_zero, List.getElem_cons_succ, List.setIfInBounds_toArray, List.set_cons_zero, List.set_cons_succ])
                      refine wpAnyH_take (i := 26) (v := ?_) rfl (by kernel_rfl) (by kernel_rfl) (by kernel_rfl) (fun _ _ _ h => h) (Or.inl ⟨by rfl, ?_⟩) (by assumption) ?_
                      rotate_left
                      · intro wz hSw
                        (try dsimp only at hSw)
                        go_simp
                        (try with_reducible rfl)
                      (try simp only [Act.put, List.getElem_toArray, List.getElem_cons_zero, List.getElem_cons_succ, List.setIfInBounds_toArray, List.set_cons_zero, List.set_cons_succ])
                      refine wpAnyH_done (by kernel_rfl) ?_ _
                      all_goals go_wp2
                      all_goals go_roundw
                      all_goals first | exact ⟨by have hb_ := HBr.out.trans (BB.out.mono (show w.heap.size ≤ wr.heap.size by omega)); first | exact hb_ | exact bdrewN hb_ _ | (go_grown; done), j + 1, by omega, by omega, by go_num, by rw [HZ.out]; exact (HP.out.below (B := wr.heap.size) (by have hb_ := BB.out; first | exact hb_ | exact bdrewN hb_ _ | (go_grown; done)) (Nat.le_refl _)), HVS.out, by first | omega | (simp; done) | (simp; omega), by simp [*, go_sem], by simp [*, go_sem], by simp [*, go_sem], by simp [*, go_sem]⟩ | (simp [intOf]; omega)
                · have HZ := Lib.hid (show cpMid xs r i (j + 1 - (i + 1)) = cpMid xs r i (j - (i + 1)) by rw [JS.out, cpMid_no XI.out XJ.out (by simp [cpB, hn])])
                  have WN := Lib.hid (show ∀ W, Calls Try.prog 39 #[sndV a b d e, .int .i64 a', .int .i64 b', .int .i64 r] W fun e_ w' => e_ = .returned (.bool false) ∧ Below W.heap.size W w' from fun W => by have q := WNG.out W; rw [decide_eq_false hn] at q; exact q)
                  clear WNG hn 
                  refine wp_region_held_drew (S := fun w' => w'.cell? ⟨wo.heap.size, 0, none⟩ = some (.int .i64 a) ∧ w'.cell? ⟨wo.heap.size, 1, none⟩ = some (.int .i64 b) ∧ w'.cell? ⟨wo.heap.size, 2, none⟩ = some (.int .i64 d) ∧ w'.cell? ⟨wo.heap.size, 3, none⟩ = some (.int .i64 e) ∧ w'.cell? ⟨b0, off0 + j * 4, none⟩ = some (.int .i64 a') ∧ w'.cell? ⟨b0, off0 + j * 4 + 1, none⟩ = some (.int .i64 b') ∧ w'.cell? ⟨b0, off0 + j * 4 + 2, none⟩ = some (.int .i64 d') ∧ w'.cell? ⟨b0, off0 + j * 4 + 3, none⟩ = some (.int .i64 e') ∧ w'.cell? ⟨rb1, 0, none⟩ = some (.int .i64 (d - e)) ∧ w'.cell? ⟨rb1, 1, none⟩ = some (.int .i64 (d + e)) ∧ w'.cell? ⟨rb2, 0, none⟩ = some (.int .i64 (d' - e')) ∧ w'.cell? ⟨rb2, 1, none⟩ = some (.int .i64 (d' + e'))) (by kernel_rfl) ?_ (fun hHeld => ?_)
                  · (try dsimp only); (first | (go_keep; done) | (simp [*, go_sem]; done))
                  refine wpAnyH_take (i := 0) (v := ?_) rfl (by kernel_rfl) (by kernel_rfl) (by kernel_rfl) (fun _ _ _ h => h) (Or.inl ⟨by rfl, ?_⟩) (by assumption) ?_
                  rotate_left
                  · intro wz hSw
                    (try dsimp only at hSw)
                    go_simp
                    (try with_reducible rfl)
                  (try simp only [Act.put, List.getElem_toArray, List.getElem_cons_zero, List.getElem_cons_succ, List.setIfInBounds_toArray, List.set_cons_zero, List.set_cons_succ])
                  refine wpAnyH_take (i := 1) (v := ?_) rfl (by kernel_rfl) (by kernel_rfl) (by kernel_rfl) (fun _ _ _ h => h) (Or.inl ⟨by rfl, ?_⟩) (by assumption) ?_
                  rotate_left
                  · intro wz hSw
                    (try dsimp only at hSw)
                    go_simp
                    (try with_reducible rfl)
                  (try simp only [Act.put, List.getElem_toArray, List.getElem_cons_zero, List.getElem_cons_succ, List.setIfInBounds_toArray, List.set_cons_zero, List.set_cons_succ])
                  refine wpAnyH_take (i := 2) (v := ?_) rfl (by kernel_rfl) (by kernel_rfl) (by kernel_rfl) (fun _ _ _ h => h) (Or.inl ⟨by rfl, ?_⟩) (by assumption) ?_
                  rotate_left
                  · intro wz hSw
                    (try dsimp only at hSw)
                    go_simp
                    (try with_reducible rfl)
                  (try simp only [Act.put, List.getElem_toArray, List.getElem_cons_zero, List.getElem_cons_succ, List.setIfInBounds_toArray, List.set_cons_zero, List.set_cons_succ])
                  refine wpAnyH_take (i := 3) (v := ?_) rfl (by kernel_rfl) (by kernel_rfl) (by kernel_rfl) (fun _ _ _ h => h) (Or.inl ⟨by rfl, ?_⟩) (by assumption) ?_
                  rotate_left
                  · intro wz hSw
                    (try dsimp only at hSw)
                    go_simp
                    (try with_reducible rfl)
                  (try simp only [Act.put, List.getElem_toArray, List.getElem_cons_zero, List.getElem_cons_succ, List.setIfInBounds_toArray, List.set_cons_zero, List.set_cons_succ])
                  refine wpAnyH_take (i := 4) (v := ?_) rfl (by kernel_rfl) (by kernel_rfl) (by kernel_rfl) (fun _ _ _ h => h) (Or.inl ⟨by rfl, ?_⟩) (by assumption) ?_
                  rotate_left
                  · intro wz hSw
                    (try dsimp only at hSw)
                    go_simp
                    (try with_reducible rfl)
                  (try simp only [Act.put, List.getElem_toArray, List.getElem_cons_zero, List.getElem_cons_succ, List.setIfInBounds_toArray, List.set_cons_zero, List.set_cons_succ])
                  refine wpAnyH_take (i := 5) (v := ?_) rfl (by kernel_rfl) (by kernel_rfl) (by kernel_rfl) (fun _ _ _ h => h) (Or.inl ⟨by rfl, ?_⟩) (by assumption) ?_
                  rotate_left
                  · intro wz hSw
                    (try dsimp only at hSw)
                    go_simp
                    (try with_reducible rfl)
                  (try simp only [Act.put, List.getElem_toArray, List.getElem_cons_zero, List.getElem_cons_succ, List.setIfInBounds_toArray, List.set_cons_zero, List.set_cons_succ])
                  refine wpAnyH_take (i := 6) (v := ?_) rfl (by kernel_rfl) (by kernel_rfl) (by kernel_rfl) (fun _ _ _ h => h) (Or.inl ⟨by rfl, ?_⟩) (by assumption) ?_
                  rotate_left
                  · intro wz hSw
                    (try dsimp only at hSw)
                    go_simp
                    (try with_reducible rfl)
                  (try simp only [Act.put, List.getElem_toArray, List.getElem_cons_zero, List.getElem_cons_succ, List.setIfInBounds_toArray, List.set_cons_zero, List.set_cons_succ])
                  refine wpAnyH_take (i := 7) (v := ?_) rfl (by kernel_rfl) (by kernel_rfl) (by kernel_rfl) (fun _ _ _ h => h) (Or.inl ⟨by rfl, ?_⟩) (by assumption) ?_
                  rotate_left
                  · intro wz hSw
                    (try dsimp only at hSw)
                    go_simp
                    (try with_reducible rfl)
                  (try simp only [Act.put, List.getElem_toArray, List.getElem_cons_zero, List.getElem_cons_succ, List.setIfInBounds_toArray, List.set_cons_zero, List.set_cons_succ])
                  refine wpAnyH_take (i := 8) (v := ?_) rfl (by kernel_rfl) (by kernel_rfl) (by kernel_rfl) (fun _ _ _ h => h) (Or.inl ⟨by rfl, ?_⟩) (by assumption) ?_
                  rotate_left
                  · intro wz hSw
                    (try dsimp only at hSw)
                    go_simp
                    (try with_reducible rfl)
                  (try simp only [Act.put, List.getElem_toArray, List.getElem_cons_zero, List.getElem_cons_succ, List.setIfInBounds_toArray, List.set_cons_zero, List.set_cons_succ])
                  refine wpAnyH_take (i := 9) (v := ?_) rfl (by kernel_rfl) (by kernel_rfl) (by kernel_rfl) (fun _ _ _ h => h) (Or.inl ⟨by rfl, ?_⟩) (by assumption) ?_
                  rotate_left
                  · intro wz hSw
                    (try dsimp only at hSw)
                    go_simp
                    (try with_reducible rfl)
                  (try simp only [Act.put, List.getElem_toArray, List.getElem_cons_zero, List.getElem_cons_succ, List.setIfInBounds_toArray, List.set_cons_zero, List.set_cons_succ])
                  refine wpAnyH_take (i := 10) (v := ?_) rfl (by kernel_rfl) (by kernel_rfl) (by kernel_rfl) (fun _ _ _ h => h) (Or.inl ⟨by rfl, ?_⟩) (by assumption) ?_
                  rotate_left
                  · intro wz hSw
                    (try dsimp only at hSw)
                    go_simp
                    (try with_reducible rfl)
                  (try simp only [Act.put, List.getElem_toArray, List.getElem_cons_zero, List.getElem_cons_succ, List.setIfInBounds_toArray, List.set_cons_zero, List.set_cons_succ])
                  refine wpAnyH_take (i := 11) (v := ?_) rfl (by kernel_rfl) (by kernel_rfl) (by kernel_rfl) (fun _ _ _ h => h) (Or.inl ⟨by rfl, ?_⟩) (by assumption) ?_
                  rotate_left
                  · intro wz hSw
                    (try dsimp only at hSw)
                    go_simp
                    (try with_reducible rfl)
                  (try simp only [Act.put, List.getElem_toArray, List.getElem_cons_zero, List.getElem_cons_succ, List.setIfInBounds_toArray, List.set_cons_zero, List.set_cons_succ])
                  refine wpAnyH_ready (rs := [12]) (by kernel_rfl) (by simp) ?_
                  refine AllReadyH.cons rfl (fun K hK => ?_) AllReadyH.nil
                  go_simp
                  go_at_call 39; refine (WN.out _).mono ?_; rintro e w33 ⟨rfl, hb33⟩; obtain ⟨hc33, hf33⟩ := bcell2 hb33; have hz33 := hb33.size; (try simp only [World.size_alloc, World.size_drew, size_set] at hz33); (try simp only [World.size_alloc, World.size_drew, size_set] at hc33); (try simp only [World.size_alloc, World.size_drew, size_set] at hf33); have ly33_0 : b0 < w33.heap.size := (by omega); have ly33_1 : wo.heap.size < w33.heap.size := (by omega); have ly33_2 : rb1 < w33.heap.size := (by omega); have ly33_3 : rb2 < w33.heap.size := (by omega); have BB := Lib.hid ((BB.out.trans (show Below wr.heap.size w4 _ from Below.mono (B := w4.heap.size) (by first | exact Below.refl _ _ | (go_grown; done)) (by omega))).trans (hb33.mono (by first | omega | (simp; done) | (simp; omega)))); clear hb33
                  (try go_wp2_with fail)
                  refine hK.out _ _ ?_ (fun hHeld2 => ?_)
                  · (try dsimp only); (first | (go_keep; done) | (simp [*, go_sem]; done))
                  clear hK K hHeld
                  (try simp only [Act.put, List.getElem_toArray, List.getElem_cons_zero, List.getElem_cons_succ, List.setIfInBounds_toArray, List.set_cons_zero, List.set_cons_succ])
                  refine wpAnyH_take (i := 13) (v := ?_) rfl (by kernel_rfl) (by kernel_rfl) (by kernel_rfl) (fun _ _ _ h => h) (Or.inl ⟨by rfl, ?_⟩) (by assumption) ?_
                  rotate_left
                  · intro wz hSw
                    (try dsimp only at hSw)
                    go_simp
                    (try with_reducible rfl)
                  (try simp only [Act.put, List.getElem_toArray, List.getElem_cons_zero, List.getElem_cons_succ, List.setIfInBounds_toArray, List.set_cons_zero, List.set_cons_succ])
                  refine wpAnyH_take (i := 14) (v := undef) rfl (by kernel_rfl) (by kernel_rfl) (by kernel_rfl) (fun _ _ _ h => h) (Or.inr ⟨by rfl, rfl⟩) (by assumption) ?_
                  (try simp only [Act.put, List.getElem_toArray, List.getElem_cons_zero, List.getElem_cons_succ, List.setIfInBounds_toArray, List.set_cons_zero, List.set_cons_succ])
                  refine wpAnyH_take (i := 15) (v := undef) rfl (by kernel_rfl) (by kernel_rfl) (by kernel_rfl) (fun _ _ _ h => h) (Or.inr ⟨by rfl, rfl⟩) (by assumption) ?_
                  (try simp only [Act.put, List.getElem_toArray, List.getElem_cons_zero, List.getElem_cons_succ, List.setIfInBounds_toArray, List.set_cons_zero, List.set_cons_succ])
                  refine wpAnyH_take (i := 16) (v := undef) rfl (by kernel_rfl) (by kernel_rfl) (by kernel_rfl) (fun _ _ _ h => h) (Or.inr ⟨by rfl, rfl⟩) (by assumption) ?_
                  (try simp only [Act.put, List.getElem_toArray, List.getElem_cons_zero, List.getElem_cons_succ, List.setIfInBounds_toArray, List.set_cons_zero, List.set_cons_succ])
                  refine wpAnyH_take (i := 17) (v := undef) rfl (by kernel_rfl) (by kernel_rfl) (by kernel_rfl) (fun _ _ _ h => h) (Or.inr ⟨by rfl, rfl⟩) (by assumption) ?_
                  (try simp only [Act.put, List.getElem_toArray, List.getElem_cons_zero, List.getElem_cons_succ, List.setIfInBounds_toArray, List.set_cons_zero, List.set_cons_succ])
                  refine wpAnyH_take (i := 18) (v := undef) rfl (by kernel_rfl) (by kernel_rfl) (by kernel_rfl) (fun _ _ _ h => h) (Or.inr ⟨by rfl, rfl⟩) (by assumption) ?_
                  (try simp only [Act.put, List.getElem_toArray, List.getElem_cons_zero, List.getElem_cons_succ, List.setIfInBounds_toArray, List.set_cons_zero, List.set_cons_succ])
                  refine wpAnyH_take (i := 19) (v := undef) rfl (by kernel_rfl) (by kernel_rfl) (by kernel_rfl) (fun _ _ _ h => h) (Or.inr ⟨by rfl, rfl⟩) (by assumption) ?_
                  (try simp only [Act.put, List.getElem_toArray, List.getElem_cons_zero, List.getElem_cons_succ, List.setIfInBounds_toArray, List.set_cons_zero, List.set_cons_succ])
                  refine wpAnyH_take (i := 20) (v := undef) rfl (by kernel_rfl) (by kernel_rfl) (by kernel_rfl) (fun _ _ _ h => h) (Or.inr ⟨by rfl, rfl⟩) (by assumption) ?_
                  (try simp only [Act.put, List.getElem_toArray, List.getElem_cons_zero, List.getElem_cons_succ, List.setIfInBounds_toArray, List.set_cons_zero, List.set_cons_succ])
                  refine wpAnyH_take (i := 21) (v := undef) rfl (by kernel_rfl) (by kernel_rfl) (by kernel_rfl) (fun _ _ _ h => h) (Or.inr ⟨by rfl, rfl⟩) (by assumption) ?_
                  (try simp only [Act.put, List.getElem_toArray, List.getElem_cons_zero, List.getElem_cons_succ, List.setIfInBounds_toArray, List.set_cons_zero, List.set_cons_succ])
                  refine wpAnyH_take (i := 22) (v := undef) rfl (by kernel_rfl) (by kernel_rfl) (by kernel_rfl) (fun _ _ _ h => h) (Or.inr ⟨by rfl, rfl⟩) (by assumption) ?_
                  (try simp only [Act.put, List.getElem_toArray, List.getElem_cons_zero, List.getElem_cons_succ, List.setIfInBounds_toArray, List.set_cons_zero, List.set_cons_succ])
                  refine wpAnyH_take (i := 23) (v := undef) rfl (by kernel_rfl) (by kernel_rfl) (by kernel_rfl) (fun _ _ _ h => h) (Or.inr ⟨by rfl, rfl⟩) (by assumption) ?_
                  (try simp only [Act.put, List.getElem_toArray, List.getElem_cons_zero, List.getElem_cons_succ, List.setIfInBounds_toArray, List.set_cons_zero, List.set_cons_succ])
                  refine wpAnyH_take (i := 24) (v := undef) rfl (by kernel_rfl) (by kernel_rfl) (by kernel_rfl) (fun _ _ _ h => h) (Or.inr ⟨by rfl, rfl⟩) (by assumption) ?_
                  (try simp only [Act.put, List.getElem_toArray, List.getElem_cons_zero, List.getElem_cons_succ, List.setIfInBounds_toArray, List.set_cons_zero, List.set_cons_succ])
                  refine wpAnyH_take (i := 25) (v := undef) rfl (by kernel_rfl) (by kernel_rfl) (by kernel_rfl) (fun _ _ _ h => h) (Or.inr ⟨by rfl, rfl⟩) (by assumption) ?_
                  (try simp only [Act.put, List.getElem_toArray, List.getElem_cons_zero, List.getElem_cons_succ, List.setIfInBounds_toArray, List.set_cons_zero, List.set_cons_succ])
                  refine wpAnyH_take (i := 26) (v := ?_) rfl (by kernel_rfl) (by kernel_rfl) (by kernel_rfl) (fun _ _ _ h => h) (Or.inl ⟨by rfl, ?_⟩) (by assumption) ?_
                  rotate_left
                  · intro wz hSw
                    (try dsimp only at hSw)
                    go_simp
                    (try with_reducible rfl)
                  (try simp only [Act.put, List.getElem_toArray, List.getElem_cons_zero, List.getElem_cons_succ, List.setIfInBounds_toArray, List.set_cons_zero, List.set_cons_succ])
                  refine wpAnyH_done (by kernel_rfl) ?_ _
                  all_goals go_wp2
                  all_goals go_roundw
                  all_goals first | exact ⟨by have hb_ := HBr.out.trans (BB.out.mono (show w.heap.size ≤ wr.heap.size by omega)); first | exact hb_ | exact bdrewN hb_ _ | (go_grown; done), j + 1, by omega, by omega, by go_num, by rw [HZ.out]; exact (HP.out.below (B := wr.heap.size) (by have hb_ := BB.out; first | exact hb_ | exact bdrewN hb_ _ | (go_grown; done)) (Nat.le_refl _)), HVS.out, by first | omega | (simp; done) | (simp; omega), by simp [*, go_sem], by simp [*, go_sem], by simp [*, go_sem], by simp [*, go_sem]⟩ | (simp [intOf]; omega)
            · obtain rfl : j = xs.length := by omega
              go_wp2
              go_roundw
              all_goals first | exact ⟨HBr.out, i + 1, by omega, by go_num, by have q := HP.out; rw [cpMid_end rfl] at q; exact q⟩ | (simp [intOf]; omega)
        · obtain rfl : i = xs.length := by omega
          go_wp2
          go_ret2
          obtain ⟨e1, e2⟩ := OwnP.res HP.out
          exact ⟨⟨A', c', by rw [HE.out.1, HE.out.2, ← e1]; rfl, by rw [HE.out.2]; exact e2.mono (by omega) (Nat.le_refl _)⟩, Br⟩
    · have HE := Lib.hid (cp_bad (xs := xs) (r := r) (e := 2) (by simp [cpE, hv, hr]) (by decide))
      have hf : [r].all (inB · 0 10000) = false := by simp [hr]
      go_enter Try.func9, Try.ntmps9
      go_wp2_with (first | (go_at_call 36; refine (implAreSoundings_any _ _ _ _ HX.out).mono ?_; rintro e w1 ⟨rfl, hb1⟩; obtain ⟨B1, hz1, q1, s1, t1, x1, y1, z1⟩ := bkeep (w := w) [] (by first | (simp; done) | (simp; omega)) (by first | (go_grown; done) | exact bdrewN (by go_grown) _) hb1; (try simp at hz1); clear hb1) | (go_at_call 37; refine (isField_any _ _ [r] _ (field_one r)).mono ?_; rintro e w' ⟨rfl, rfl⟩))
      go_ret2
      exact ⟨⟨none, 0, by rw [HE.out.1, HE.out.2]; rfl, by rw [HE.out.2]; exact ResPP.nil _ _ _ _ _ (by omega)⟩, by first | exact B1 | (go_grown; done)⟩
  · have HE := Lib.hid (cp_bad (xs := xs) (r := r) (e := 1) (by simp [cpE, hv]) (by decide))
    go_enter Try.func9, Try.ntmps9
    go_wp2_with (first | (go_at_call 36; refine (implAreSoundings_any _ _ _ _ HX.out).mono ?_; rintro e w1 ⟨rfl, hb1⟩; obtain ⟨B1, hz1, q1, s1, t1, x1, y1, z1⟩ := bkeep (w := w) [] (by first | (simp; done) | (simp; omega)) (by first | (go_grown; done) | exact bdrewN (by go_grown) _) hb1; (try simp at hz1); clear hb1))
    go_ret2
    exact ⟨⟨none, 0, by rw [HE.out.1, HE.out.2]; rfl, by rw [HE.out.2]; exact ResPP.nil _ _ _ _ _ (by omega)⟩, B1⟩
end Go.Proofs.Ytbbnnahjghlnoaa
