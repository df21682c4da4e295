/- ThinSoundings, by the reference. -/
import Derived.Test.YtbbnnahjghlnoaaTh0
import Derived.Test.YtbbnnahjghlnoaaNear
import Derived.Deep.RegionHeld3
import Derived.Deep.QuietTactic
import Derived.Deep.DeepCutAuto
import Derived.BigRegion
import Derived.IntWalk
namespace Go.Proofs.Ytbbnnahjghlnoaa
set_option linter.unusedSimpArgs false
set_option linter.unusedVariables false
open Go.RowKit

theorem bcellW {W w1 : World} (hb : Below W.heap.size W w1) : (∀ b o, b < W.heap.size → w1.cell? ⟨b, o, none⟩ = W.cell? ⟨b, o, none⟩) ∧ (∀ b o, b < W.heap.size → w1.frozen? ⟨b, o, none⟩ = W.frozen? ⟨b, o, none⟩) :=
  ⟨fun b o h => hb.cell (p := ⟨b, o, none⟩) h, fun b o h => hb.frozen (p := ⟨b, o, none⟩) h⟩
theorem quo_bd {x r : Int} (hx : 0 ≤ x ∧ x ≤ 10000) (hr : 1 ≤ r) : 0 ≤ x.tdiv r ∧ x.tdiv r ≤ 10000 := by
  constructor
  · exact Int.tdiv_nonneg hx.1 (by omega)
  · have h := Int.tdiv_le_self r hx.1
    omega
theorem thK_next (xs : List Snd) (r : Int) (i k : Nat) : thK xs r i (k + 1) = (thK xs r i k && !thB xs r k i) := rfl
theorem thB_of {xs : List Snd} {r : Int} {k i : Nat} {x y d e x' y' d' e' : Int} (h : xs[k]? = some ⟨x, y, d, e⟩) (h' : xs[i]? = some ⟨x', y', d', e'⟩) :
    thB xs r k i = ((decide (x.tdiv r = x'.tdiv r) && decide (y.tdiv r = y'.tdiv r)) && (decide (d - e < d' - e') || (decide (d - e = d' - e') && decide (k < i)))) := by
  unfold thB
  rw [thQ_of h, thQ_of h', lowAt_of h, lowAt_of h']
  congr 1
  by_cases h1 : x.tdiv r = x'.tdiv r <;> by_cases h2 : y.tdiv r = y'.tdiv r <;> simp [h1, h2]
theorem thTo_yes {xs : List Snd} {r : Int} {i : Nat} (h : thK xs r i xs.length = true) : thTo xs r (i + 1) = thTo xs r i ++ [(i : Int)] := by rw [thTo, if_pos h]
theorem thTo_no {xs : List Snd} {r : Int} {i : Nat} (h : thK xs r i xs.length = false) : thTo xs r (i + 1) = thTo xs r i := by rw [thTo, if_neg (by rw [h]; decide)]

set_option maxRecDepth 20000 in
set_option maxHeartbeats 4000000 in
theorem specThin_any (A : Option Addr) (c : Nat) (xs : List Snd) (r : Int) (w : World) (hx : SndsAt w A c xs) :
    Calls Try.prog 26 #[.slice A xs.length c, .int .i64 r] w fun e w' =>
      (∃ A' c', e = .returned (.tuple #[.slice A' (thL xs r).length c', .int .i64 (thE xs r)]) ∧ ResI w' w.heap.size w'.heap.size A' c' (thL xs r)) ∧ Below w.heap.size w w' := by
  have hn := Nat.le_trans hx.1 hx.2.1
  have HX := Lib.hid hx; clear hx
  by_cases hv : sndsB xs = true
  · by_cases hr : inB r 1 10000 = true
    · have HE := Lib.hid (th_ok hv hr)
      have h200 := snds_len hv
      obtain ⟨br1, br2⟩ := inB_bd hr
      have HV := Lib.hid hv
      have hr0 : (r == 0) = false := beq_eq_false_iff_ne.2 (by omega)
      go_enter Try.func26, Try.ntmps26
      go_wp2_with (first
        | (go_at_call 47; refine (specAreSoundings_any _ _ _ _ HX.out).mono ?_; rintro e w1 ⟨rfl, hb1⟩; obtain ⟨B1, hz1, q1, s1, t1, x1, y1, z1⟩ := bkeep (w := w) [] (by first | (simp; done) | (simp; omega)) (by first | (go_grown; done) | exact bdrewN (by go_grown) _) hb1; (try simp at hz1); clear hb1)
        | (go_at_call 46; refine (l01In_any _ _ _ _).mono ?_; rintro e w' ⟨rfl, rfl⟩))
      go_loopw [6, 7] (fun o i wr => Below w.heap.size w wr ∧ ∃ k : Nat, k ≤ xs.length ∧ i = .int .i64 k ∧ OwnI wr w.heap.size o (thTo xs r k)) (fun _ i _ => xs.length - (intOf i).toNat)
      case atStart => exact ⟨by go_grown, 0, by omega, rfl, OwnI.zero B1.size⟩
      case round =>
        obtain ⟨Br, i, hi, rfl, A', c', rfl, hc', hown⟩ := hrel
        have HO := Lib.hid hown; clear hown
        have hln := thTo_len xs r i
        have sr := Br.size
        have HBo := Lib.hid Br; clear Br
        by_cases hlt : i < xs.length
        · have hi0 : (0 : Int) ≤ (i : Int) := Int.natCast_nonneg _
          have hi1 : (i : Int) < (xs.length : Int) := by omega
          have HOI := Lib.hid (show OwnI wr w.heap.size (.slice A' (thTo xs r i).length c') (thTo xs r i) from ⟨_, _, rfl, hc', HO.out⟩)
          clear HO
          go_wp2
          go_loopw [8, 9] (fun kp j wr => Below w.heap.size w wr ∧ OwnI wr w.heap.size (.slice A' (thTo xs r i).length c') (thTo xs r i) ∧ ∃ k : Nat, k ≤ xs.length ∧ j = .int .i64 k ∧ kp = .bool (thK xs r i k)) (fun _ j _ => xs.length - (intOf j).toNat)
          case atStart => exact ⟨HBo.out, HOI.out, 0, by omega, rfl, rfl⟩
          case round =>
            clear sr HBo HOI
            obtain ⟨Br, hown, k, hk, rfl, rfl⟩ := hrel
            have HB := Lib.hid Br; have HOI := Lib.hid hown; have sr := Br.size; have tr := bold Br
            clear hown Br
            by_cases hlt2 : k < xs.length
            · obtain ⟨b0, off0, x, y, d, e, hA, hb0, hxk, p0, p1, p2, p3⟩ := HX.out.at_ hlt2
              obtain ⟨b0', off0', x', y', d', e', hA', hb0', hxi, p4, p5, p6, p7⟩ := HX.out.at_ hlt
              rw [hA] at hA'; simp only [Option.some.injEq, Addr.mk.injEq, and_true] at hA'; obtain ⟨rfl, rfl⟩ := hA'
              subst hA
              obtain ⟨e1, e2, e3, e4⟩ := snd_xy HV.out hxk; obtain ⟨f1, f2, f3, f4⟩ := snd_xy HV.out hxi
              obtain ⟨g1, g2, g3, g4⟩ := snd_bd HV.out hxk; obtain ⟨g5, g6, g7, g8⟩ := snd_bd HV.out hxi
              have hj1 : (0 : Int) ≤ (k : Int) := Int.natCast_nonneg _
              have hj2 : (k : Int) < (xs.length : Int) := by omega
              have c0 := (tr _ _ hb0).trans p0
              have c1 := (tr _ _ hb0).trans p1
              have c2 := (tr _ _ hb0).trans p2
              have c3 := (tr _ _ hb0).trans p3
              have c4 := (tr _ _ hb0).trans p4
              have c5 := (tr _ _ hb0).trans p5
              have c6 := (tr _ _ hb0).trans p6
              have c7 := (tr _ _ hb0).trans p7
              have TB := Lib.hid (thB_of (r := r) hxk hxi)
              have TN := Lib.hid (thK_next xs r i k)
              clear hxi hxk p0 p1 p2 p3 p4 p5 p6 p7 tr
              have lb0 : b0 < wr.heap.size := by omega
              obtain ⟨q1, hq1⟩ : ∃ q, q = x.tdiv r := ⟨_, rfl⟩
              obtain ⟨q2, hq2⟩ : ∃ q, q = x'.tdiv r := ⟨_, rfl⟩
              obtain ⟨q3, hq3⟩ : ∃ q, q = y.tdiv r := ⟨_, rfl⟩
              obtain ⟨q4, hq4⟩ : ∃ q, q = y'.tdiv r := ⟨_, rfl⟩
              have u1 := quo_bd (r := r) ⟨e1, e2⟩ br1; have u2 := quo_bd (r := r) ⟨f1, f2⟩ br1; have u3 := quo_bd (r := r) ⟨e3, e4⟩ br1; have u4 := quo_bd (r := r) ⟨f3, f4⟩ br1
              rw [← hq1] at u1; rw [← hq2] at u2; rw [← hq3] at u3; rw [← hq4] at u4
              rw [← hq1, ← hq2, ← hq3, ← hq4] at TB
              replace hq1 := hq1.symm; replace hq2 := hq2.symm; replace hq3 := hq3.symm; replace hq4 := hq4.symm
              have W1 : IntKind.i64.wrap q1 = q1 := IntWalk.i64_in _ (by omega)
              have W2 : IntKind.i64.wrap q2 = q2 := IntWalk.i64_in _ (by omega)
              have W3 : IntKind.i64.wrap q3 = q3 := IntWalk.i64_in _ (by omega)
              have W4 : IntKind.i64.wrap q4 = q4 := IntWalk.i64_in _ (by omega)
              go_wp2_with fail
              go_cut [10] (fun v wx => v = .bool (decide (q1 = q2) && decide (q3 = q4)) ∧ Below wr.heap.size wr wx)
              case first =>
                by_cases h1 : q1 = q2
                · by_cases h2 : q3 = q4
                  all_goals
                    go_region
                    all_goals (try go_wp2_with fail)
                    all_goals go_meet
                    all_goals exact ⟨by simp [h1, h2], by first | exact bdrewN (Below.refl _ _) _ | (go_grown; done)⟩
                · have h1a : (q1 == q2) = false := beq_eq_false_iff_ne.2 h1
                  have h1b : decide (q1 = q2) = false := decide_eq_false h1
                  go_region
                  all_goals (try go_wp2_with fail)
                  all_goals go_meet
                  all_goals exact ⟨by simp [h1], by first | exact bdrewN (Below.refl _ _) _ | (go_grown; done)⟩
              case rest =>
              obtain ⟨rfl, hF⟩ := hcut
              have zc := hF.size
              have tc := bold hF
              have k0 := (tc _ _ lb0).trans c0
              have k1 := (tc _ _ lb0).trans c1
              have k2 := (tc _ _ lb0).trans c2
              have k3 := (tc _ _ lb0).trans c3
              have k4 := (tc _ _ lb0).trans c4
              have k5 := (tc _ _ lb0).trans c5
              have k6 := (tc _ _ lb0).trans c6
              have k7 := (tc _ _ lb0).trans c7
              have HC := Lib.hid (HB.out.trans (hF.mono (show w.heap.size ≤ wr.heap.size by omega)))
              have HOC := Lib.hid (HOI.out.below hF (Nat.le_refl _))
              clear c0 c1 c2 c3 c4 c5 c6 c7 tc hF HB HOI W1 W2 W3 W4 hq1 hq2 hq3 hq4
              have lb1 : b0 < wc.heap.size := by omega
              obtain ⟨sm, hsm⟩ : ∃ q, q = (decide (q1 = q2) && decide (q3 = q4)) := ⟨_, rfl⟩
              rw [← hsm] at TB ⊢
              clear hsm u1 u2 u3 u4
              have M1 := Lib.hid True.intro
              go_wp2_with fail
              go_region_held3 (fun w' => w'.cell? ⟨b0, off0 + k * 4, none⟩ = some (.int .i64 x) ∧ w'.cell? ⟨b0, off0 + k * 4 + 1, none⟩ = some (.int .i64 y) ∧ w'.cell? ⟨b0, off0 + k * 4 + 2, none⟩ = some (.int .i64 d) ∧ w'.cell? ⟨b0, off0 + k * 4 + 3, none⟩ = some (.int .i64 e) ∧ w'.cell? ⟨b0, off0 + i * 4, none⟩ = some (.int .i64 x') ∧ w'.cell? ⟨b0, off0 + i * 4 + 1, none⟩ = some (.int .i64 y') ∧ w'.cell? ⟨b0, off0 + i * 4 + 2, none⟩ = some (.int .i64 d') ∧ w'.cell? ⟨b0, off0 + i * 4 + 3, none⟩ = some (.int .i64 e')) (first | (go_keep; done) | (simp [*, go_sem]; done))
                (first
                  | (go_at_call 34; have m_ := M1; clear m_ M1; refine (l21Bounds_any _ _ _ _ _ (by omega) (by omega) (by omega) (by omega)).mono ?_; rintro e w21 ⟨rfl, hb21⟩; obtain ⟨hc21, hf21⟩ := bcellW hb21; have hz21 := hb21.size; (try simp only [World.size_alloc, World.size_drew, size_set] at hz21); (try simp only [World.size_alloc, World.size_drew, size_set] at hc21); (try simp only [World.size_alloc, World.size_drew, size_set] at hf21); have ly21_0 : b0 < w21.heap.size := (by omega); have BB := Lib.hid ((show Below wc.heap.size wc _ from (by first | exact Below.refl _ _ | (go_grown; done))).trans (hb21.mono (by first | omega | (simp; done) | (simp; omega)))); clear hb21)
                  | (go_at_call 34; refine (l21Bounds_any _ _ _ _ _ (by omega) (by omega) (by omega) (by omega)).mono ?_; rintro e w22 ⟨rfl, hb22⟩; obtain ⟨hc22, hf22⟩ := bcellW hb22; have hz22 := hb22.size; (try simp only [World.size_alloc, World.size_drew, size_set] at hz22); (try simp only [World.size_alloc, World.size_drew, size_set] at hc22); (try simp only [World.size_alloc, World.size_drew, size_set] at hf22); have ly22_0 : b0 < w22.heap.size := (by omega); have BB := Lib.hid ((BB.out.trans (show Below wc.heap.size w21 _ from Below.mono (B := w21.heap.size) (by first | exact Below.refl _ _ | (go_grown; done)) (by omega))).trans (hb22.mono (by first | omega | (simp; done) | (simp; omega)))); clear hb22))
              all_goals go_wp2_with fail
              all_goals go_roundw
              all_goals first | exact ⟨by have hb_ := HC.out.trans (BB.out.mono (show w.heap.size ≤ wc.heap.size by omega)); first | with_reducible exact hb_ | (go_grown; done), HOC.out.below (B := wc.heap.size) (by have hb_ := BB.out; first | with_reducible exact hb_ | (go_grown; done)) (Nat.le_refl _), k + 1, by omega, by go_num, by rw [TN.out, TB.out]; first | (simp [*]; done) | (simp [*]; omega)⟩ | (simp [intOf]; omega)
            · obtain rfl : k = xs.length := by omega
              have hl1 := thTo_len xs r i
              have HO := Lib.hid (show wr.ownsRow w.heap.size 2 1 (.slice A' (thTo xs r i).length c') (thTo xs r i).length ((thTo xs r i).map (.int .i64)) from by obtain ⟨_, _, e_, _, ho⟩ := HOI.out; rw [e_]; exact ho)
              cases hK : thK xs r i xs.length with
              | true =>
                have HY := Lib.hid (thTo_yes hK)
                go_wp2_with (at_builtin; refine app1 rfl _ _ 40 rfl w.heap.size 2 (.int .i64 0) 8 Try.underlying40 infoInt2 rfl (.int .i64 i) rfl _ _ _ rfl _ rfl (owns_below (B := wr.heap.size) HO.out ?_ (Nat.le_refl _)) ?_ ?_ ?_ ?_ ?_; (focus (first | (go_grown; done) | (refine bdrewN ?_ _; go_grown; done) | exact Below.alloc (bdrewN (Below.refl _ _) _) (Nat.le_refl _) _)); (focus (first | (simp; done) | exact (World.cell?_alloc_new (w := _) _ _ _).trans rfl)); (focus (unfold maxLen; omega)); (focus omega); (focus (first | omega | (simp; omega))); intro v2 w2 hown2 hb2)
                go_roundw
                all_goals first | exact ⟨Below.trans (by have hb_ := HB.out; go_grown) hb2, i + 1, by omega, by go_num, OwnI.next HY.out hown2⟩ | (simp [intOf]; omega)
              | false =>
                have HN := Lib.hid (thTo_no hK)
                go_wp2
                go_roundw
                all_goals first | exact ⟨HB.out, i + 1, by omega, by go_num, by rw [HN.out]; exact HOI.out⟩ | (simp [intOf]; omega)
        · obtain rfl : i = xs.length := by omega
          go_wp2
          go_ret2
          exact ⟨⟨A', c', by rw [HE.out.1, HE.out.2]; rfl, by rw [HE.out.2]; exact OwnI.res ⟨_, _, rfl, hc', HO.out⟩⟩, HBo.out⟩
    · have HE := Lib.hid (th_bad (xs := xs) (r := r) (e := 2) (by simp [thE, hv, hr]) (by decide))
      go_enter Try.func26, Try.ntmps26
      go_wp2_with (first
        | (go_at_call 47; refine (specAreSoundings_any _ _ _ _ HX.out).mono ?_; rintro e w1 ⟨rfl, hb1⟩; obtain ⟨B1, hz1, q1, s1, t1, x1, y1, z1⟩ := bkeep (w := w) [] (by first | (simp; done) | (simp; omega)) (by first | (go_grown; done) | exact bdrewN (by go_grown) _) hb1; (try simp at hz1); clear hb1)
        | (go_at_call 46; refine (l01In_any _ _ _ _).mono ?_; rintro e w' ⟨rfl, rfl⟩))
      go_ret2
      exact ⟨⟨none, 0, by rw [HE.out.1, HE.out.2]; rfl, by rw [HE.out.2]; exact ResI.nil _ _ _ _ _ (by omega)⟩, B1⟩
  · have HE := Lib.hid (th_bad (xs := xs) (r := r) (e := 1) (by simp [thE, hv]) (by decide))
    go_enter Try.func26, Try.ntmps26
    go_wp2_with (go_at_call 47; refine (specAreSoundings_any _ _ _ _ HX.out).mono ?_; rintro e w1 ⟨rfl, hb1⟩; obtain ⟨B1, hz1, q1, s1, t1, x1, y1, z1⟩ := bkeep (w := w) [] (by first | (simp; done) | (simp; omega)) (by first | (go_grown; done) | exact bdrewN (by go_grown) _) hb1; (try simp at hz1); clear hb1)
    go_ret2
    exact ⟨⟨none, 0, by rw [HE.out.1, HE.out.2]; rfl, by rw [HE.out.2]; exact ResI.nil _ _ _ _ _ (by omega)⟩, B1⟩
end Go.Proofs.Ytbbnnahjghlnoaa
