/- The law of FnConflicts: soundings in conflict. -/
import Derived.Test.YtbbnnahjghlnoaaDrawSn
import Derived.Test.YtbbnnahjghlnoaaCfP
import Derived.Test.YtbbnnahjghlnoaaCp
import Derived.Test.YtbbnnahjghlnoaaPr1
import Derived.BigRegion
import Derived.BigQuiet
import Derived.Deep.QuietTactic
namespace Go.Proofs.Ytbbnnahjghlnoaa
set_option linter.unusedSimpArgs false
set_option linter.unusedVariables false
open Go.RowKit

theorem big_any (A : Option Addr) (n c : Nat) (w : World) (hn : n ≤ 9223372036854775807) :
    Calls Try.prog 15 #[.slice A n c] w fun e w' => e = .returned (.bool (decide ((4096 : Int) < n))) ∧ w' = w := by
  go_enter Try.func15, Try.ntmps15
  go_wp2
  go_ret
  exact ⟨rfl, rfl⟩
/-- what the law asks of the shoalest -/
theorem cf_low {xs : List Snd} {i : Nat} {x y d e : Int} (h : xs[i]? = some ⟨x, y, d, e⟩) : lowAt xs i = d - e := lowAt_of h

set_option maxRecDepth 100000 in
set_option maxHeartbeats 8000000 in
theorem lawConflicts_any (A : Option Addr) (c : Nat) (xs : List Int) (w : World) (h : BytesAt w A c xs) :
    Calls Try.prog 4 #[.slice A xs.length c] w fun e w' => e = .returned (.bool true) ∧ Below w.heap.size w w' := by
  have hn := Nat.le_trans h.1 h.2.1
  have H := Lib.hid h; clear h
  by_cases hbig : (4096 : Int) < xs.length
  · go_enter Try.func4, Try.ntmps4
    go_wp2_with (go_at_call 15; refine (big_any _ _ _ _ hn).mono ?_; rintro e w' ⟨rfl, rfl⟩)
    go_ret
    exact ⟨rfl, Below.refl _ _⟩
  · go_enter Try.func4, Try.ntmps4
    go_wp2_with (go_at_call 15; refine (big_any _ _ _ _ hn).mono ?_; rintro e w' ⟨rfl, rfl⟩)
    refine (drawConflictPairs_any A c xs _ H.out).mono ?_
    rintro e w1 ⟨⟨A1, c1, L, r, rfl, r1, hL⟩, hb1⟩
    have z1 := hb1.size
    have B1 := Lib.hid hb1
    clear hb1
    have LS_1 := Lib.hid r1; clear r1
    have H_1 := Lib.hid (H.out.below B1.out (Nat.le_refl _))
    go_wp2_with fail
    refine (implConflict_any _ _ _ _ _ LS_1.out).mono ?_
    rintro e w2 ⟨⟨A2, c2, rfl, r2⟩, hb2⟩
    have z2 := hb2.size
    have B2 := Lib.hid (B1.out.trans (hb2.mono (by omega)))
    have LS_2 := Lib.hid (LS_1.out.below hb2 (by omega)); clear LS_1
    have H_2 := Lib.hid (H_1.out.below hb2 (by omega)); clear H_1
    clear hb2 B1
    have PI_2 := Lib.hid r2; clear r2
    go_wp2_with fail
    refine (specConflict_any _ _ _ _ _ LS_2.out).mono ?_
    rintro e w3 ⟨⟨A3, c3, rfl, r3⟩, hb3⟩
    have z3 := hb3.size
    have B3 := Lib.hid (B2.out.trans (hb3.mono (by omega)))
    have LS_3 := Lib.hid (LS_2.out.below hb3 (by omega)); clear LS_2
    have H_3 := Lib.hid (H_2.out.below hb3 (by omega)); clear H_2
    have PI_3 := Lib.hid (PI_2.out.below hb3 (by omega)); clear PI_2
    clear hb3 B2
    have PS_3 := Lib.hid r3; clear r3
    go_wp2_with fail
    refine (drawSoundingsNear_any A c xs _ H_3.out).mono ?_
    rintro e w4 ⟨⟨A4, c4, M, x, y, q, rfl, r4, hM⟩, hb4⟩
    have z4 := hb4.size
    have B4 := Lib.hid (B3.out.trans (hb4.mono (by omega)))
    have LS_4 := Lib.hid (LS_3.out.below hb4 (by omega)); clear LS_3
    have H_4 := Lib.hid (H_3.out.below hb4 (by omega)); clear H_3
    have PI_4 := Lib.hid (PI_3.out.below hb4 (by omega)); clear PI_3
    have PS_4 := Lib.hid (PS_3.out.below hb4 (by omega)); clear PS_3
    clear hb4 B3
    have MS_4 := Lib.hid r4; clear r4
    go_wp2_with fail
    refine (implNear_any _ _ _ _ _ _ _ MS_4.out).mono ?_
    rintro e w5 ⟨⟨A5, c5, rfl, r5⟩, hb5⟩
    have z5 := hb5.size
    have B5 := Lib.hid (B4.out.trans (hb5.mono (by omega)))
    have LS_5 := Lib.hid (LS_4.out.below hb5 (by omega)); clear LS_4
    have H_5 := Lib.hid (H_4.out.below hb5 (by omega)); clear H_4
    have PI_5 := Lib.hid (PI_4.out.below hb5 (by omega)); clear PI_4
    have PS_5 := Lib.hid (PS_4.out.below hb5 (by omega)); clear PS_4
    have MS_5 := Lib.hid (MS_4.out.below hb5 (by omega)); clear MS_4
    clear hb5 B4
    have NI_5 := Lib.hid r5; clear r5
    go_wp2_with fail
    refine (specNear_any _ _ _ _ _ _ _ MS_5.out).mono ?_
    rintro e w6 ⟨⟨A6, c6, rfl, r6⟩, hb6⟩
    have z6 := hb6.size
    have B6 := Lib.hid (B5.out.trans (hb6.mono (by omega)))
    have LS_6 := Lib.hid (LS_5.out.below hb6 (by omega)); clear LS_5
    have H_6 := Lib.hid (H_5.out.below hb6 (by omega)); clear H_5
    have PI_6 := Lib.hid (PI_5.out.below hb6 (by omega)); clear PI_5
    have PS_6 := Lib.hid (PS_5.out.below hb6 (by omega)); clear PS_5
    have MS_6 := Lib.hid (MS_5.out.below hb6 (by omega)); clear MS_5
    have NI_6 := Lib.hid (NI_5.out.below hb6 (by omega)); clear NI_5
    clear hb6 B5
    have NS_6 := Lib.hid r6; clear r6
    go_wp2_with fail
    refine (drawShoalestOf_any A c xs _ H_6.out).mono ?_
    rintro e w7 ⟨⟨A7, c7, E, rfl, r7, hE⟩, hb7⟩
    have z7 := hb7.size
    have B7 := Lib.hid (B6.out.trans (hb7.mono (by omega)))
    have LS_7 := Lib.hid (LS_6.out.below hb7 (by omega)); clear LS_6
    have H_7 := Lib.hid (H_6.out.below hb7 (by omega)); clear H_6
    have PI_7 := Lib.hid (PI_6.out.below hb7 (by omega)); clear PI_6
    have PS_7 := Lib.hid (PS_6.out.below hb7 (by omega)); clear PS_6
    have NI_7 := Lib.hid (NI_6.out.below hb7 (by omega)); clear NI_6
    have NS_7 := Lib.hid (NS_6.out.below hb7 (by omega)); clear NS_6
    clear hb7 B6
    have ES_7 := Lib.hid r7; clear r7
    go_wp2_with fail
    refine (implShoalestOf_any _ _ _ _ ES_7.out).mono ?_
    rintro e w8 ⟨rfl, hb8⟩
    have z8 := hb8.size
    have B8 := Lib.hid (B7.out.trans (hb8.mono (by omega)))
    have LS_8 := Lib.hid (LS_7.out.below hb8 (by omega)); clear LS_7
    have PI_8 := Lib.hid (PI_7.out.below hb8 (by omega)); clear PI_7
    have PS_8 := Lib.hid (PS_7.out.below hb8 (by omega)); clear PS_7
    have NI_8 := Lib.hid (NI_7.out.below hb8 (by omega)); clear NI_7
    have NS_8 := Lib.hid (NS_7.out.below hb8 (by omega)); clear NS_7
    have ES_8 := Lib.hid (ES_7.out.below hb8 (by omega)); clear ES_7
    clear hb8 B7
    go_wp2_with fail
    refine (specShoalestOf_any _ _ _ _ ES_8.out).mono ?_
    rintro e w9 ⟨rfl, hb9⟩
    have z9 := hb9.size
    have B9 := Lib.hid (B8.out.trans (hb9.mono (by omega)))
    have LS_9 := Lib.hid (LS_8.out.below hb9 (by omega)); clear LS_8
    have PI_9 := Lib.hid (PI_8.out.below hb9 (by omega)); clear PI_8
    have PS_9 := Lib.hid (PS_8.out.below hb9 (by omega)); clear PS_8
    have NI_9 := Lib.hid (NI_8.out.below hb9 (by omega)); clear NI_8
    have NS_9 := Lib.hid (NS_8.out.below hb9 (by omega)); clear NS_8
    have ES_9 := Lib.hid (ES_8.out.below hb9 (by omega)); clear ES_8
    clear hb9 B8
    obtain ⟨ce, hce⟩ : ∃ ce, ce = cpE L r := ⟨_, rfl⟩
    obtain ⟨ps, hps⟩ : ∃ ps, ps = cpL L r := ⟨_, rfl⟩
    obtain ⟨ne, hne⟩ : ∃ ne, ne = nearE M x y q := ⟨_, rfl⟩
    obtain ⟨nl, hnl⟩ : ∃ nl, nl = nearL M x y q := ⟨_, rfl⟩
    obtain ⟨si, hsi⟩ : ∃ si, si = shoalI E := ⟨_, rfl⟩
    obtain ⟨se, hse⟩ : ∃ se, se = shoalE E := ⟨_, rfl⟩
    rw [← hps] at PI_9 PS_9
    rw [← hnl] at NI_9 NS_9
    rw [← hce, ← hps, ← hne, ← hnl, ← hsi, ← hse]
    have HC := Lib.hid hce; have HP := Lib.hid hps; have HSI := Lib.hid hsi; have HSE := Lib.hid hse; clear hce hps hne hnl hsi hse
    have lps := PS_9.out.bd
    go_wp2_with fail
    refine (likeLists9_same _ _ _ _ _ _ _ _ _ _ PI_9.out PS_9.out).mono ?_
    rintro e w10 ⟨rfl, hb10⟩
    have z10 := hb10.size
    have B10 := Lib.hid (B9.out.trans (hb10.mono (by omega)))
    have LS_10 := Lib.hid (LS_9.out.below hb10 (by omega)); clear LS_9
    have PI_10 := Lib.hid (PI_9.out.below hb10 (by omega)); clear PI_9
    have PS_10 := Lib.hid (PS_9.out.below hb10 (by omega)); clear PS_9
    have NI_10 := Lib.hid (NI_9.out.below hb10 (by omega)); clear NI_9
    have NS_10 := Lib.hid (NS_9.out.below hb10 (by omega)); clear NS_9
    have ES_10 := Lib.hid (ES_9.out.below hb10 (by omega)); clear ES_9
    clear hb10 B9
    go_wp2_with fail
    refine (likeInts_same _ _ _ _ _ _ NI_10.out.at NS_10.out.at).mono ?_
    rintro e w11 ⟨rfl, hb11⟩
    have z11 := hb11.size
    have B11 := Lib.hid (B10.out.trans (hb11.mono (by omega)))
    have LS_11 := Lib.hid (LS_10.out.below hb11 (by omega)); clear LS_10
    have PI_11 := Lib.hid (PI_10.out.below hb11 (by omega)); clear PI_10
    have PS_11 := Lib.hid (PS_10.out.below hb11 (by omega)); clear PS_10
    have NI_11 := Lib.hid (NI_10.out.below hb11 (by omega)); clear NI_10
    have NS_11 := Lib.hid (NS_10.out.below hb11 (by omega)); clear NS_10
    have ES_11 := Lib.hid (ES_10.out.below hb11 (by omega)); clear ES_10
    clear hb11 B10
    go_wp2_with fail
    go_loopw [22] (fun i wr => Below w11.heap.size w11 wr ∧ ∃ j : Nat, j ≤ E.length ∧ i = .int .i64 j) (fun i _ => E.length - (intOf i).toNat)
    case atStart => exact ⟨by first | exact Below.refl _ _ | (go_grown; done), 0, by omega, rfl⟩
    case round =>
      obtain ⟨Br, j, hj, rfl⟩ := hrel
      have sr := Br.size
      have ER := Lib.hid (ES_11.out.below Br (Nat.le_refl _)); have LR := Lib.hid (LS_11.out.below Br (Nat.le_refl _)); have PR := Lib.hid (PS_11.out.below Br (by omega))
      have BR := Lib.hid Br; clear Br
      by_cases hs : (se == 0) = true
      · by_cases hlt : j < E.length
        · obtain ⟨hv, m, hm, hmi, hleast⟩ := cf_shoal (xs := E) (by rw [← HSE.out]; exact beq_iff_eq.1 hs)
          have hsm : si = (m : Int) := by rw [HSI.out]; exact hmi
          clear hmi
          subst hsm
          obtain ⟨b1, o1, a, b, d, e, rfl, hb1, hx1, p0, p1, p2, p3⟩ := ER.out.at_ hlt
          obtain ⟨b1', o1', a', b', d', e', hA', -, hx2, q0, q1, q2, q3⟩ := ER.out.at_ hm
          simp only [Option.some.injEq, Addr.mk.injEq, and_true] at hA'; obtain ⟨rfl, rfl⟩ := hA'
          have hle := hleast j hlt
          rw [lowAt_of hx1, lowAt_of hx2] at hle
          obtain ⟨g1, g2, g3, g4⟩ := snd_bd hv hx1; obtain ⟨g5, g6, g7, g8⟩ := snd_bd hv hx2
          have W1 : IntKind.i64.wrap (d - e) = d - e := IntWalk.i64_in _ (by omega)
          have W2 : IntKind.i64.wrap (d' - e') = d' - e' := IntWalk.i64_in _ (by omega)
          have hlq : (d - e < d' - e') = False := eq_false (by omega)
          have i0 : (0 : Int) ≤ (j : Int) := by omega
          have i1 : (j : Int) < E.length := by omega
          have i2 : (0 : Int) ≤ (m : Int) := by omega
          have i3 : (m : Int) < E.length := by omega
          clear hx1 hx2 hleast hv g1 g2 g3 g4 g5 g6 g7 g8
          go_wp2_with fail
          go_quiet (fail)
          go_wp2
          go_roundw
          all_goals first | exact ⟨by have hb_ := BR.out; first | exact hb_ | exact bdrewN hb_ _ | (go_grown; done), j + 1, by omega, by go_num⟩ | (simp [intOf]; omega)
        · obtain rfl : j = E.length := by omega
          go_wp2_with fail
          have BR2 := Lib.hid (B11.out.trans (BR.out.mono (by omega)))
          clear BR
          obtain ⟨wo, hwo⟩ : ∃ x : World, x = wr := ⟨_, rfl⟩
          subst hwo
          go_loopw [23] (fun i wq => Below wo.heap.size wo wq ∧ ∃ j : Nat, j ≤ ps.length ∧ i = .int .i64 j) (fun i _ => ps.length - (intOf i).toNat)
          case atStart => exact ⟨by first | exact Below.refl _ _ | exact bdrewN (Below.refl _ _) _ | (go_grown; done), 0, by omega, rfl⟩
          case round =>
            obtain ⟨Bq, j, hj, rfl⟩ := hrel
            have sq := Bq.size
            have LQ := Lib.hid (LR.out.below Bq (Nat.le_refl _)); have PQ := Lib.hid (PR.out.below Bq (by omega)); have BQ := Lib.hid Bq; clear Bq
            by_cases hc : (ce == 0) = true
            · by_cases hlt : j < ps.length
              · obtain ⟨b3, o3, g, p, rfl, hb3, hp, hg, d0, d1, d2, -⟩ := PQ.out.at_ hlt
                obtain ⟨ii, jj, a, b, d, e, a', b', d', e', rfl, hi, hjj, hx1, hx2, n1, n2, q1, q2, q3, q4, q5, q6, q7, q8, hor⟩ := cf_pair (xs := L) (r := r) (by rw [← HC.out]; exact beq_iff_eq.1 hc) (by rw [← HP.out]; exact hp)
                dsimp only at d1 d2
                obtain ⟨b1, o1, x1, y1, u1, v1, rfl, hb1, hy1, p0, p1, p2, p3⟩ := LQ.out.at_ hi
                rw [hx1] at hy1; simp only [Option.some.injEq, Snd.mk.injEq] at hy1; obtain ⟨rfl, rfl, rfl, rfl⟩ := hy1
                obtain ⟨b1', o1', x2, y2, u2, v2, hA', -, hy2, t0, t1, t2, t3⟩ := LQ.out.at_ hjj
                simp only [Option.some.injEq, Addr.mk.injEq, and_true] at hA'; obtain ⟨rfl, rfl⟩ := hA'
                rw [hx2] at hy2; simp only [Option.some.injEq, Snd.mk.injEq] at hy2; obtain ⟨rfl, rfl, rfl, rfl⟩ := hy2
                clear hx1 hx2 hp
                have i0 : (0 : Int) ≤ (ii : Int) := by omega
                have i1 : (ii : Int) < L.length := by omega
                have i2 : (0 : Int) ≤ (jj : Int) := by omega
                have i3 : (jj : Int) < L.length := by omega
                have i4 : (0 : Int) ≤ (j : Int) := by omega
                have i5 : (j : Int) < ps.length := by omega
                obtain ⟨nn, hnn⟩ : ∃ nn, nn = nearL L a b r := ⟨_, rfl⟩
                have CN := Lib.hid (show ∀ W, Below wr.heap.size wr W → Calls Try.prog 18 #[.slice (some ⟨b1, o1, none⟩) L.length c1, .int .i64 a, .int .i64 b, .int .i64 r] W fun e_ w' => (∃ A' c', e_ = .returned (.tuple #[.slice A' nn.length c', .int .i64 0]) ∧ ResI w' W.heap.size w'.heap.size A' c' nn) ∧ Below W.heap.size W w' from fun W hW => by have qq := implNear_any _ _ _ a b r W (LQ.out.below hW (Nat.le_refl _)); rw [n1, ← hnn] at qq; exact qq)
                rw [← hnn] at n2; clear hnn n1
                have HB := Lib.hid n2; clear n2
                have W1 : IntKind.i64.wrap (d - d') = d - d' := IntWalk.i64_in _ (by omega)
                have W2 : IntKind.i64.wrap (d' - d) = d' - d := IntWalk.i64_in _ (by omega)
                have W3 : IntKind.i64.wrap (e + e') = e + e' := IntWalk.i64_in _ (by omega)
                obtain ⟨mm, hmm⟩ : ∃ mm : Int, mm = if d - d' < d' - d then d' - d else d - d' := ⟨_, rfl⟩
                have hm1 : (if d - d' < d' - d then d' - d else d - d') = mm := hmm.symm
                have hm2 : (if d' - d < d - d' then d - d' else d' - d) = mm := by rw [hmm]; split <;> split <;> omega
                have hm3 : (if d' - d ≤ d - d' then d - d' else d' - d) = mm := by rw [hmm]; split <;> split <;> omega
                have hm4 : max (d - d') (d' - d) = mm := by rw [hmm]; split <;> omega
                have hmq : (mm ≤ e + e') = False := eq_false (by rw [hmm]; split <;> omega)
                clear hmm hor q1 q2 q3 q4 q5 q6 q7 q8
                have lw0 : b1 < wr.heap.size := hb1
                have lw1 : b3 < wr.heap.size := hb3
                have lw2 : g < wr.heap.size := hg
                go_wp2_with fail
                clear hc
                (try clear hs)
                (try clear hs0)
                go_cut [24, 25] (fun p1 p2 wx => ∃ ra rb, p1 = .pointer (some ⟨ra, 0, none⟩) ∧ p2 = .pointer (some ⟨rb, 0, none⟩) ∧ Below wr.heap.size wr wx ∧ ra < wx.heap.size ∧ rb < wx.heap.size ∧ wx.cell? ⟨ra, 0, none⟩ = some (.int .i64 a) ∧ wx.cell? ⟨ra, 1, none⟩ = some (.int .i64 b) ∧ wx.cell? ⟨ra, 2, none⟩ = some (.int .i64 d) ∧ wx.cell? ⟨ra, 3, none⟩ = some (.int .i64 e) ∧ wx.cell? ⟨rb, 0, none⟩ = some (.int .i64 a') ∧ wx.cell? ⟨rb, 1, none⟩ = some (.int .i64 b') ∧ wx.cell? ⟨rb, 2, none⟩ = some (.int .i64 d') ∧ wx.cell? ⟨rb, 3, none⟩ = some (.int .i64 e'))
                case first =>
                  go_region
                  all_goals go_wp2_with fail
                  all_goals go_meet
                  all_goals exact ⟨_, _, rfl, rfl, by first | (go_grown; done) | exact bdrewN (by go_grown) _, by first | omega | (simp; done) | (simp; omega), by first | omega | (simp; done) | (simp; omega), by simp [*, go_sem], by simp [*, go_sem], by simp [*, go_sem], by simp [*, go_sem], by simp [*, go_sem], by simp [*, go_sem], by simp [*, go_sem], by simp [*, go_sem]⟩
                case rest =>
                  obtain ⟨ra, rb, rfl, rfl, hF⟩ := hcut
                  revert hF; generalize wc = w4; rintro ⟨hb4, la4, lb4, ca0, ca1, ca2, ca3, cb0, cb1, cb2, cb3⟩
                  have z4 := hb4.size
                  have cp0 := (bAt hb4 (b := b3) (o := o3 + j) lw1).trans d0
                  have cp1 := (bAt hb4 (b := g) (o := 1) lw2).trans d2
                  have LW := Lib.hid (LQ.out.below hb4 (Nat.le_refl _))
                  have lv0 : b1 < w4.heap.size := by omega
                  have lv1 : b3 < w4.heap.size := by omega
                  have lv2 : g < w4.heap.size := by omega
                  have CM := Lib.hid (CN.out w4 hb4)
                  have BB := Lib.hid hb4; clear hb4 d0 d1 d2 p0 p1 p2 p3 t0 t1 t2 t3 CN LQ PQ lw0 lw1 lw2 i0 i1 i2 i3
                  go_wp2_with fail
                  refine CM.out.mono ?_
                  rintro e_ w30 ⟨⟨A8, c8, rfl, r8⟩, hb30⟩
                  have R8 := Lib.hid r8; clear r8 CM
                  have G : Below wr.heap.size wr w30 ∧ w30.cell? ⟨b3, o3 + j, none⟩ = some (.slice (some ⟨g, 0, none⟩) 2 2) ∧ w30.cell? ⟨g, 1, none⟩ = some (.int .i64 jj) ∧ ra < w30.heap.size ∧ rb < w30.heap.size ∧ w30.cell? ⟨ra, 2, none⟩ = some (.int .i64 d) ∧ w30.cell? ⟨ra, 3, none⟩ = some (.int .i64 e) ∧ w30.cell? ⟨rb, 2, none⟩ = some (.int .i64 d') ∧ w30.cell? ⟨rb, 3, none⟩ = some (.int .i64 e') := ⟨BB.out.trans (hb30.mono (by omega)), (bAt hb30 lv1).trans cp0, (bAt hb30 lv2).trans cp1, by have := hb30.size; omega, by have := hb30.size; omega, (bAt hb30 la4).trans ca2, (bAt hb30 la4).trans ca3, (bAt hb30 lb4).trans cb2, (bAt hb30 lb4).trans cb3⟩
                  clear hb30 cp0 cp1 la4 lb4 ca0 ca1 ca2 ca3 cb0 cb1 cb2 cb3 lv0 lv1 lv2 BB LW z4
                  obtain ⟨bb, cp0, cp1, la, lb, ca2, ca3, cb2, cb3⟩ := G
                  have BB := Lib.hid bb; have z30 := bb.size; clear bb
                  go_wp2_with fail
                  refine (hasInt_any _ _ _ _ _ R8.out.at).mono ?_
                  rintro e_ w31 ⟨rfl, hb31⟩
                  rw [HB.out]
                  have G : Below wr.heap.size wr w31 ∧ w31.cell? ⟨ra, 2, none⟩ = some (.int .i64 d) ∧ w31.cell? ⟨ra, 3, none⟩ = some (.int .i64 e) ∧ w31.cell? ⟨rb, 2, none⟩ = some (.int .i64 d') ∧ w31.cell? ⟨rb, 3, none⟩ = some (.int .i64 e') := ⟨BB.out.trans (hb31.mono z30), (bAt hb31 la).trans ca2, (bAt hb31 la).trans ca3, (bAt hb31 lb).trans cb2, (bAt hb31 lb).trans cb3⟩
                  clear hb31 cp0 cp1 la lb ca2 ca3 cb2 cb3 BB z30 R8 HB
                  obtain ⟨bb, ca2, ca3, cb2, cb3⟩ := G
                  have BB := Lib.hid bb; clear bb
                  go_wp2
                  go_roundw
                  all_goals first | exact ⟨by have hb_ := BQ.out.trans (BB.out.mono (show wo.heap.size ≤ wr.heap.size by omega)); first | exact hb_ | exact bdrewN hb_ _ | (go_grown; done), j + 1, by omega, by go_num⟩ | (simp [intOf]; omega)
              · obtain rfl : j = ps.length := by omega
                go_wp2
                go_ret
                exact ⟨rfl, by have hb_ := BR2.out.trans (BQ.out.mono (by omega)); first | exact hb_ | exact bdrewN hb_ _ | (go_grown; done)⟩
            · have hc0 : (ce == 0) = false := (Bool.not_eq_true _).mp hc
              go_wp2
              go_ret
              exact ⟨rfl, by have hb_ := BR2.out.trans (BQ.out.mono (by omega)); first | exact hb_ | exact bdrewN hb_ _ | (go_grown; done)⟩
      · have hs0 : (se == 0) = false := (Bool.not_eq_true _).mp hs
        go_wp2_with fail
        have BR2 := Lib.hid (B11.out.trans (BR.out.mono (by omega)))
        clear BR
        obtain ⟨wo, hwo⟩ : ∃ x : World, x = wr := ⟨_, rfl⟩
        subst hwo
        go_loopw [23] (fun i wq => Below wo.heap.size wo wq ∧ ∃ j : Nat, j ≤ ps.length ∧ i = .int .i64 j) (fun i _ => ps.length - (intOf i).toNat)
        case atStart => exact ⟨by first | exact Below.refl _ _ | exact bdrewN (Below.refl _ _) _ | (go_grown; done), 0, by omega, rfl⟩
        case round =>
          obtain ⟨Bq, j, hj, rfl⟩ := hrel
          have sq := Bq.size
          have LQ := Lib.hid (LR.out.below Bq (Nat.le_refl _)); have PQ := Lib.hid (PR.out.below Bq (by omega)); have BQ := Lib.hid Bq; clear Bq
          by_cases hc : (ce == 0) = true
          · by_cases hlt : j < ps.length
            · obtain ⟨b3, o3, g, p, rfl, hb3, hp, hg, d0, d1, d2, -⟩ := PQ.out.at_ hlt
              obtain ⟨ii, jj, a, b, d, e, a', b', d', e', rfl, hi, hjj, hx1, hx2, n1, n2, q1, q2, q3, q4, q5, q6, q7, q8, hor⟩ := cf_pair (xs := L) (r := r) (by rw [← HC.out]; exact beq_iff_eq.1 hc) (by rw [← HP.out]; exact hp)
              dsimp only at d1 d2
              obtain ⟨b1, o1, x1, y1, u1, v1, rfl, hb1, hy1, p0, p1, p2, p3⟩ := LQ.out.at_ hi
              rw [hx1] at hy1; simp only [Option.some.injEq, Snd.mk.injEq] at hy1; obtain ⟨rfl, rfl, rfl, rfl⟩ := hy1
              obtain ⟨b1', o1', x2, y2, u2, v2, hA', -, hy2, t0, t1, t2, t3⟩ := LQ.out.at_ hjj
              simp only [Option.some.injEq, Addr.mk.injEq, and_true] at hA'; obtain ⟨rfl, rfl⟩ := hA'
              rw [hx2] at hy2; simp only [Option.some.injEq, Snd.mk.injEq] at hy2; obtain ⟨rfl, rfl, rfl, rfl⟩ := hy2
              clear hx1 hx2 hp
              have i0 : (0 : Int) ≤ (ii : Int) := by omega
              have i1 : (ii : Int) < L.length := by omega
              have i2 : (0 : Int) ≤ (jj : Int) := by omega
              have i3 : (jj : Int) < L.length := by omega
              have i4 : (0 : Int) ≤ (j : Int) := by omega
              have i5 : (j : Int) < ps.length := by omega
              obtain ⟨nn, hnn⟩ : ∃ nn, nn = nearL L a b r := ⟨_, rfl⟩
              have CN := Lib.hid (show ∀ W, Below wr.heap.size wr W → Calls Try.prog 18 #[.slice (some ⟨b1, o1, none⟩) L.length c1, .int .i64 a, .int .i64 b, .int .i64 r] W fun e_ w' => (∃ A' c', e_ = .returned (.tuple #[.slice A' nn.length c', .int .i64 0]) ∧ ResI w' W.heap.size w'.heap.size A' c' nn) ∧ Below W.heap.size W w' from fun W hW => by have qq := implNear_any _ _ _ a b r W (LQ.out.below hW (Nat.le_refl _)); rw [n1, ← hnn] at qq; exact qq)
              rw [← hnn] at n2; clear hnn n1
              have HB := Lib.hid n2; clear n2
              have W1 : IntKind.i64.wrap (d - d') = d - d' := IntWalk.i64_in _ (by omega)
              have W2 : IntKind.i64.wrap (d' - d) = d' - d := IntWalk.i64_in _ (by omega)
              have W3 : IntKind.i64.wrap (e + e') = e + e' := IntWalk.i64_in _ (by omega)
              obtain ⟨mm, hmm⟩ : ∃ mm : Int, mm = if d - d' < d' - d then d' - d else d - d' := ⟨_, rfl⟩
              have hm1 : (if d - d' < d' - d then d' - d else d - d') = mm := hmm.symm
              have hm2 : (if d' - d < d - d' then d - d' else d' - d) = mm := by rw [hmm]; split <;> split <;> omega
              have hm3 : (if d' - d ≤ d - d' then d - d' else d' - d) = mm := by rw [hmm]; split <;> split <;> omega
              have hm4 : max (d - d') (d' - d) = mm := by rw [hmm]; split <;> omega
              have hmq : (mm ≤ e + e') = False := eq_false (by rw [hmm]; split <;> omega)
              clear hmm hor q1 q2 q3 q4 q5 q6 q7 q8
              have lw0 : b1 < wr.heap.size := hb1
              have lw1 : b3 < wr.heap.size := hb3
              have lw2 : g < wr.heap.size := hg
              go_wp2_with fail
              clear hc
              (try clear hs)
              (try clear hs0)
              go_cut [24, 25] (fun p1 p2 wx => ∃ ra rb, p1 = .pointer (some ⟨ra, 0, none⟩) ∧ p2 = .pointer (some ⟨rb, 0, none⟩) ∧ Below wr.heap.size wr wx ∧ ra < wx.heap.size ∧ rb < wx.heap.size ∧ wx.cell? ⟨ra, 0, none⟩ = some (.int .i64 a) ∧ wx.cell? ⟨ra, 1, none⟩ = some (.int .i64 b) ∧ wx.cell? ⟨ra, 2, none⟩ = some (.int .i64 d) ∧ wx.cell? ⟨ra, 3, none⟩ = some (.int .i64 e) ∧ wx.cell? ⟨rb, 0, none⟩ = some (.int .i64 a') ∧ wx.cell? ⟨rb, 1, none⟩ = some (.int .i64 b') ∧ wx.cell? ⟨rb, 2, none⟩ = some (.int .i64 d') ∧ wx.cell? ⟨rb, 3, none⟩ = some (.int .i64 e'))
              case first =>
                go_region
                all_goals go_wp2_with fail
                all_goals go_meet
                all_goals exact ⟨_, _, rfl, rfl, by first | (go_grown; done) | exact bdrewN (by go_grown) _, by first | omega | (simp; done) | (simp; omega), by first | omega | (simp; done) | (simp; omega), by simp [*, go_sem], by simp [*, go_sem], by simp [*, go_sem], by simp [*, go_sem], by simp [*, go_sem], by simp [*, go_sem], by simp [*, go_sem], by simp [*, go_sem]⟩
              case rest =>
                obtain ⟨ra, rb, rfl, rfl, hF⟩ := hcut
                revert hF; generalize wc = w4; rintro ⟨hb4, la4, lb4, ca0, ca1, ca2, ca3, cb0, cb1, cb2, cb3⟩
                have z4 := hb4.size
                have cp0 := (bAt hb4 (b := b3) (o := o3 + j) lw1).trans d0
                have cp1 := (bAt hb4 (b := g) (o := 1) lw2).trans d2
                have LW := Lib.hid (LQ.out.below hb4 (Nat.le_refl _))
                have lv0 : b1 < w4.heap.size := by omega
                have lv1 : b3 < w4.heap.size := by omega
                have lv2 : g < w4.heap.size := by omega
                have CM := Lib.hid (CN.out w4 hb4)
                have BB := Lib.hid hb4; clear hb4 d0 d1 d2 p0 p1 p2 p3 t0 t1 t2 t3 CN LQ PQ lw0 lw1 lw2 i0 i1 i2 i3
                go_wp2_with fail
                refine CM.out.mono ?_
                rintro e_ w30 ⟨⟨A8, c8, rfl, r8⟩, hb30⟩
                have R8 := Lib.hid r8; clear r8 CM
                have G : Below wr.heap.size wr w30 ∧ w30.cell? ⟨b3, o3 + j, none⟩ = some (.slice (some ⟨g, 0, none⟩) 2 2) ∧ w30.cell? ⟨g, 1, none⟩ = some (.int .i64 jj) ∧ ra < w30.heap.size ∧ rb < w30.heap.size ∧ w30.cell? ⟨ra, 2, none⟩ = some (.int .i64 d) ∧ w30.cell? ⟨ra, 3, none⟩ = some (.int .i64 e) ∧ w30.cell? ⟨rb, 2, none⟩ = some (.int .i64 d') ∧ w30.cell? ⟨rb, 3, none⟩ = some (.int .i64 e') := ⟨BB.out.trans (hb30.mono (by omega)), (bAt hb30 lv1).trans cp0, (bAt hb30 lv2).trans cp1, by have := hb30.size; omega, by have := hb30.size; omega, (bAt hb30 la4).trans ca2, (bAt hb30 la4).trans ca3, (bAt hb30 lb4).trans cb2, (bAt hb30 lb4).trans cb3⟩
                clear hb30 cp0 cp1 la4 lb4 ca0 ca1 ca2 ca3 cb0 cb1 cb2 cb3 lv0 lv1 lv2 BB LW z4
                obtain ⟨bb, cp0, cp1, la, lb, ca2, ca3, cb2, cb3⟩ := G
                have BB := Lib.hid bb; have z30 := bb.size; clear bb
                go_wp2_with fail
                refine (hasInt_any _ _ _ _ _ R8.out.at).mono ?_
                rintro e_ w31 ⟨rfl, hb31⟩
                rw [HB.out]
                have G : Below wr.heap.size wr w31 ∧ w31.cell? ⟨ra, 2, none⟩ = some (.int .i64 d) ∧ w31.cell? ⟨ra, 3, none⟩ = some (.int .i64 e) ∧ w31.cell? ⟨rb, 2, none⟩ = some (.int .i64 d') ∧ w31.cell? ⟨rb, 3, none⟩ = some (.int .i64 e') := ⟨BB.out.trans (hb31.mono z30), (bAt hb31 la).trans ca2, (bAt hb31 la).trans ca3, (bAt hb31 lb).trans cb2, (bAt hb31 lb).trans cb3⟩
                clear hb31 cp0 cp1 la lb ca2 ca3 cb2 cb3 BB z30 R8 HB
                obtain ⟨bb, ca2, ca3, cb2, cb3⟩ := G
                have BB := Lib.hid bb; clear bb
                go_wp2
                go_roundw
                all_goals first | exact ⟨by have hb_ := BQ.out.trans (BB.out.mono (show wo.heap.size ≤ wr.heap.size by omega)); first | exact hb_ | exact bdrewN hb_ _ | (go_grown; done), j + 1, by omega, by go_num⟩ | (simp [intOf]; omega)
            · obtain rfl : j = ps.length := by omega
              go_wp2
              go_ret
              exact ⟨rfl, by have hb_ := BR2.out.trans (BQ.out.mono (by omega)); first | exact hb_ | exact bdrewN hb_ _ | (go_grown; done)⟩
          · have hc0 : (ce == 0) = false := (Bool.not_eq_true _).mp hc
            go_wp2
            go_ret
            exact ⟨rfl, by have hb_ := BR2.out.trans (BQ.out.mono (by omega)); first | exact hb_ | exact bdrewN hb_ _ | (go_grown; done)⟩
end Go.Proofs.Ytbbnnahjghlnoaa
