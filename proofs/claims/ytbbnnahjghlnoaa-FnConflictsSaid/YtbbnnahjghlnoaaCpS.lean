/- ConflictPairs, by the program and by the reference. -/
import Derived.Test.YtbbnnahjghlnoaaCp0
import Derived.Test.YtbbnnahjghlnoaaShoal
import Derived.Deep.RegionHeld3
import Derived.Deep.QuietTactic
import Derived.BigQuiet
import Derived.IntWalk
namespace Go.Proofs.Ytbbnnahjghlnoaa
set_option linter.unusedSimpArgs false
set_option linter.unusedVariables false
open Go.RowKit

theorem infoInts : (Try.prog.info? 40).map (fun i => (i.zero, i.size, i.bytes)) = some (some (.slice none 0 0), 1, 24) := by kernel_rfl
theorem bcell2 {W w1 : World} (hb : Below W.heap.size W w1) : (∀ b o, b < W.heap.size → w1.cell? ⟨b, o, none⟩ = W.cell? ⟨b, o, none⟩) ∧ (∀ b o, b < W.heap.size → w1.frozen? ⟨b, o, none⟩ = W.frozen? ⟨b, o, none⟩) :=
  ⟨fun b o h => hb.cell (p := ⟨b, o, none⟩) h, fun b o h => hb.frozen (p := ⟨b, o, none⟩) h⟩
set_option maxHeartbeats 400000 in
theorem l21Apart_any (a b c d : Int) (w : World) :
    Calls Try.prog 33 #[ivV a b, ivV c d] w fun e w' => e = .returned (.bool (decide (b < c) || decide (d < a))) ∧ Below w.heap.size w w' := by
  go_enter Try.func33, Try.ntmps33
  go_wp2
  all_goals go_ret
  all_goals exact ⟨ret_bool (by first | rfl | (simp; done) | (simp [*]; done) | (simp; omega)), by first | (go_grown; done) | exact bdrewN (by go_grown) _⟩
set_option maxRecDepth 100000 in
set_option maxHeartbeats 8000000 in
theorem specConflict_any (A : Option Addr) (c : Nat) (xs : List Snd) (r : Int) (w : World) (hx : SndsAt w A c xs) :
    Calls Try.prog 7 #[.slice A xs.length c, .int .i64 r] w fun e w' =>
      (∃ A' c', e = .returned (.tuple #[.slice A' (cpL xs r).length c', .int .i64 (cpE xs r)]) ∧ ResPP w' w.heap.size w'.heap.size A' c' (cpL xs r)) ∧ Below w.heap.size w w' := by
  have hn := Nat.le_trans hx.1 hx.2.1
  have HX := Lib.hid hx; clear hx
  by_cases hv : sndsB xs = true
  · by_cases hr : inB r 0 10000 = true
    · have HE := Lib.hid (cp_ok hv hr)
      have h200 := snds_len hv
      obtain ⟨br1, br2⟩ := inB_bd hr
      have HV := Lib.hid hv
      go_enter Try.func7, Try.ntmps7
      go_wp2_with (first
        | (go_at_call 31; refine (l21Code_any _ _ _ _ _ HX.out).mono ?_; rintro e w1 ⟨rfl, hb1⟩; obtain ⟨B1, hz1, q1, s1, t1, x1, y1, z1⟩ := bkeep (w := w) [] (by first | (simp; done) | (simp; omega)) (by first | (go_grown; done) | exact bdrewN (by go_grown) _) hb1; (try simp at hz1); clear hb1))
      go_loopw [7, 8] (fun o i wr => Below w.heap.size w wr ∧ ∃ k : Nat, k ≤ xs.length ∧ i = .int .i64 k ∧ OwnP wr w.heap.size 40 o (cpTo xs r k)) (fun _ i _ => xs.length - (intOf i).toNat)
      case atStart => exact ⟨by go_grown, 0, by omega, rfl, OwnP.zero B1.size⟩
      case round =>
        obtain ⟨Br, i, hi, rfl, hown⟩ := hrel
        obtain ⟨bs, ⟨A', c', rfl, hc', how, hall⟩, hin, hne⟩ := id hown
        have hbl : (bs.map prE).length = bs.length := by rw [List.length_map]
        rw [hbl] at hown ⊢
        have HP := Lib.hid hown; clear hown how hall hin hne
        by_cases hlt : i < xs.length
        · have HBo := Lib.hid Br; clear Br
          have hi0 : (0 : Int) ≤ (i : Int) := Int.natCast_nonneg _
          have hi1 : (i : Int) < (xs.length : Int) := by omega
          go_wp2
          go_loopw [7, 9] (fun o k wr => Below w.heap.size w wr ∧ ∃ j : Nat, i + 1 ≤ j ∧ j ≤ xs.length ∧ k = .int .i64 j ∧ OwnP wr w.heap.size 40 o (cpMid xs r i (j - (i + 1)))) (fun _ k _ => xs.length - (intOf k).toNat)
          case atStart => exact ⟨HBo.out, i + 1, by omega, by omega, by go_num, by rw [Nat.sub_self, cpMid_zero]; exact HP.out⟩
          case round =>
            obtain ⟨Br, j, hj0, hj, rfl, hown⟩ := hrel
            obtain ⟨bs, ⟨A', c', rfl, hc', how, hall⟩, hin, hne⟩ := id hown
            have hbl : (bs.map prE).length = bs.length := by rw [List.length_map]
            have hbl2 : bs.length ≤ 40200 := by rw [hin.len]; exact cpMid_len h200 (by omega) (by omega)
            rw [hbl] at how hown hne ⊢
            have HP := Lib.hid hown; have HO := Lib.hid how; have HI := Lib.hid hin; have HN := Lib.hid hne; have HBr := Lib.hid Br; have tr := bold Br; have sr := Br.size
            clear hown how hall hin hne Br
            by_cases hlt2 : j < xs.length
            · obtain ⟨b0, off0, a, b, d, e, hA, hb0, hxi, p0, p1, p2, p3⟩ := HX.out.at_ hlt
              obtain ⟨b0', off0', a', b', d', e', hA', hb0', hxj, p4, p5, p6, p7⟩ := HX.out.at_ hlt2
              rw [hA] at hA'; simp only [Option.some.injEq, Addr.mk.injEq, and_true] at hA'; obtain ⟨rfl, rfl⟩ := hA'
              subst hA
              obtain ⟨e1, e2, e3, e4⟩ := snd_xy HV.out hxi; obtain ⟨f1, f2, f3, f4⟩ := snd_xy HV.out hxj
              obtain ⟨g1, g2, g3, g4⟩ := snd_bd HV.out hxi; obtain ⟨g5, g6, g7, g8⟩ := snd_bd HV.out hxj
              have hj1 : (0 : Int) ≤ (j : Int) := Int.natCast_nonneg _
              have hj2 : (j : Int) < (xs.length : Int) := by omega
              have c0 := (tr _ _ hb0).trans p0
              have c1 := (tr _ _ hb0).trans p1
              have c2 := (tr _ _ hb0).trans p2
              have c3 := (tr _ _ hb0).trans p3
              have c4 := (tr _ _ hb0).trans p4
              have c5 := (tr _ _ hb0).trans p5
              have c6 := (tr _ _ hb0).trans p6
              have c7 := (tr _ _ hb0).trans p7
              have XI := Lib.hid hxi; have XJ := Lib.hid (show xs[i + 1 + (j - (i + 1))]? = some ⟨a', b', d', e'⟩ by rw [show i + 1 + (j - (i + 1)) = j by omega]; exact hxj)
              have je : i + 1 + (j - (i + 1)) = j := by omega
              have js : j + 1 - (i + 1) = j - (i + 1) + 1 := by omega
              have JE := Lib.hid je; have JS := Lib.hid js
              clear hxi hxj p0 p1 p2 p3 p4 p5 p6 p7 je js tr
              have lb0 : b0 < wr.heap.size := by omega
              by_cases hn : (a - a') * (a - a') + (b - b') * (b - b') ≤ r * r
              · by_cases h1 : d + e < d' - e'
                · have HY := Lib.hid (show cpMid xs r i (j + 1 - (i + 1)) = cpMid xs r i (j - (i + 1)) ++ [((i : Int), (j : Int))] by rw [JS.out, cpMid_yes XI.out XJ.out (by simp [cpB, hn, h1]), JE.out])
                  have M1 := Lib.hid True.intro; have M2 := Lib.hid True.intro
                  have WN := Lib.hid (show ∀ W, Calls Try.prog 32 #[.int .i64 a, .int .i64 b, .int .i64 a', .int .i64 b', .int .i64 r] W fun e w' => e = .returned (.bool true) ∧ W = w' from fun W => by have q := l21Within_any a b a' b' r W e1 e2 e3 e4 f1 f2 f3 f4 br1 br2; rw [decide_eq_true hn] at q; exact q)
                  go_wp2_with fail
                  go_region_held3 (fun w' => w'.cell? ⟨b0, off0 + i * 4, none⟩ = some (.int .i64 a) ∧ w'.cell? ⟨b0, off0 + i * 4 + 1, none⟩ = some (.int .i64 b) ∧ w'.cell? ⟨b0, off0 + i * 4 + 2, none⟩ = some (.int .i64 d) ∧ w'.cell? ⟨b0, off0 + i * 4 + 3, none⟩ = some (.int .i64 e) ∧ w'.cell? ⟨b0, off0 + j * 4, none⟩ = some (.int .i64 a') ∧ w'.cell? ⟨b0, off0 + j * 4 + 1, none⟩ = some (.int .i64 b') ∧ w'.cell? ⟨b0, off0 + j * 4 + 2, none⟩ = some (.int .i64 d') ∧ w'.cell? ⟨b0, off0 + j * 4 + 3, none⟩ = some (.int .i64 e')) (first | (go_keep; done) | (simp [*, go_sem]; done))
                    (first
                      | (go_at_call 32; refine (WN.out _).mono ?_; rintro e w' ⟨rfl, rfl⟩)
                      | (go_at_call 34; have m_ := M1; clear m_ M1; refine (l21Bounds_any _ _ _ _ _ (by omega) (by omega) (by omega) (by omega)).mono ?_; rintro e w21 ⟨rfl, hb21⟩; obtain ⟨hc21, hf21⟩ := bcell2 hb21; have hz21 := hb21.size; (try simp only [World.size_alloc, World.size_drew, size_set] at hz21); (try simp only [World.size_alloc, World.size_drew, size_set] at hc21); (try simp only [World.size_alloc, World.size_drew, size_set] at hf21); have ly21_0 : b0 < w21.heap.size := (by omega); have BB := Lib.hid ((show Below wr.heap.size wr _ from (by first | exact Below.refl _ _ | (go_grown; done))).trans (hb21.mono (by first | omega | (simp; done) | (simp; omega)))); clear hb21)
                      | (go_at_call 34; have m_ := M2; clear m_ M2; refine (l21Bounds_any _ _ _ _ _ (by omega) (by omega) (by omega) (by omega)).mono ?_; rintro e w22 ⟨rfl, hb22⟩; obtain ⟨hc22, hf22⟩ := bcell2 hb22; have hz22 := hb22.size; (try simp only [World.size_alloc, World.size_drew, size_set] at hz22); (try simp only [World.size_alloc, World.size_drew, size_set] at hc22); (try simp only [World.size_alloc, World.size_drew, size_set] at hf22); have ly22_0 : b0 < w22.heap.size := (by omega); have BB := Lib.hid ((BB.out.trans (show Below wr.heap.size w21 _ from Below.mono (B := w21.heap.size) (by first | exact Below.refl _ _ | (go_grown; done)) (by omega))).trans (hb22.mono (by first | omega | (simp; done) | (simp; omega)))); clear hb22)
                      | (go_at_call 33; refine (l21Apart_any _ _ _ _ _).mono ?_; rintro e w23 ⟨rfl, hb23⟩; obtain ⟨hc23, hf23⟩ := bcell2 hb23; have hz23 := hb23.size; (try simp only [World.size_alloc, World.size_drew, size_set] at hz23); (try simp only [World.size_alloc, World.size_drew, size_set] at hc23); (try simp only [World.size_alloc, World.size_drew, size_set] at hf23); have ly23_0 : b0 < w23.heap.size := (by omega); have BB := Lib.hid ((BB.out.trans (show Below wr.heap.size w22 _ from Below.mono (B := w22.heap.size) (by first | exact Below.refl _ _ | (go_grown; done)) (by omega))).trans (hb23.mono (by first | omega | (simp; done) | (simp; omega)))); clear hb23))
                  all_goals go_wp2_with (at_builtin; refine appG rfl _ _ 24 rfl w.heap.size 40 (.slice none 0 0) 1 24 Try.underlying24 infoInts rfl (by omega) (prE w23.heap.size) rfl (by intro u hu; simp [prE] at hu; subst hu; rfl) _ _ _ rfl _ rfl (own_keep HO.out (Keep.of_below (show Below wr.heap.size wr _ by have hb_ := BB.out; first | exact hb_ | exact bdrewN hb_ _ | (go_grown; done) | (go_grown <;> first | exact hb_ | exact bdrewN hb_ _)))) ?_ ?_ ?_ ?_ ?_; (focus (intro q u hq; match q, hq with | 0, hq => (simp [prE] at hq; subst hq; simp [*, go_sem]) | q + 1, hq => simp [prE] at hq)); (focus (unfold maxLen; omega)); (focus omega); (focus (first | omega | (simp; omega))); intro v6 w6 hown6 hg6 hat6; have OP6 := Lib.hid (OwnP.next (x := (i : Int)) (y := (j : Int)) (bl := w23.heap.size) HY.out HI.out HN.out (Keep.of_below (show Below wr.heap.size wr _ by have hb_ := BB.out; first | exact hb_ | exact bdrewN hb_ _ | (go_grown; done) | (go_grown <;> first | exact hb_ | exact bdrewN hb_ _))) (by omega) (by omega) (by first | omega | (simp; done) | (simp; omega)) (fun q hq => by have := HO.out.lt q hq; omega) (fun o => by simp [*, go_sem]) (by simp [*, go_sem]) (by simp [*, go_sem]) hg6 hat6 rfl hown6); have C6 := Below.grow (B := w.heap.size) (w0 := w) (by have hb_ := HBr.out.trans (BB.out.mono (show w.heap.size ≤ wr.heap.size by omega)); first | exact hb_ | (go_grown; done) | exact bdrewN hb_ _) hg6 (fun q hq => by have := HO.out.lt q hq; omega) (by first | omega | (simp; omega)); clear hg6 hat6 hown6)
                  all_goals go_roundw
                  all_goals first | exact ⟨C6, j + 1, by omega, by omega, by go_num, OP6.out⟩ | (simp [intOf]; omega)
                · by_cases h2 : d' + e' < d - e
                  · have HY := Lib.hid (show cpMid xs r i (j + 1 - (i + 1)) = cpMid xs r i (j - (i + 1)) ++ [((i : Int), (j : Int))] by rw [JS.out, cpMid_yes XI.out XJ.out (by simp [cpB, hn, h2]), JE.out])
                    have M1 := Lib.hid True.intro; have M2 := Lib.hid True.intro
                    have WN := Lib.hid (show ∀ W, Calls Try.prog 32 #[.int .i64 a, .int .i64 b, .int .i64 a', .int .i64 b', .int .i64 r] W fun e w' => e = .returned (.bool true) ∧ W = w' from fun W => by have q := l21Within_any a b a' b' r W e1 e2 e3 e4 f1 f2 f3 f4 br1 br2; rw [decide_eq_true hn] at q; exact q)
                    go_wp2_with fail
                    go_region_held3 (fun w' => w'.cell? ⟨b0, off0 + i * 4, none⟩ = some (.int .i64 a) ∧ w'.cell? ⟨b0, off0 + i * 4 + 1, none⟩ = some (.int .i64 b) ∧ w'.cell? ⟨b0, off0 + i * 4 + 2, none⟩ = some (.int .i64 d) ∧ w'.cell? ⟨b0, off0 + i * 4 + 3, none⟩ = some (.int .i64 e) ∧ w'.cell? ⟨b0, off0 + j * 4, none⟩ = some (.int .i64 a') ∧ w'.cell? ⟨b0, off0 + j * 4 + 1, none⟩ = some (.int .i64 b') ∧ w'.cell? ⟨b0, off0 + j * 4 + 2, none⟩ = some (.int .i64 d') ∧ w'.cell? ⟨b0, off0 + j * 4 + 3, none⟩ = some (.int .i64 e')) (first | (go_keep; done) | (simp [*, go_sem]; done))
                      (first
                        | (go_at_call 32; refine (WN.out _).mono ?_; rintro e w' ⟨rfl, rfl⟩)
                        | (go_at_call 34; have m_ := M1; clear m_ M1; refine (l21Bounds_any _ _ _ _ _ (by omega) (by omega) (by omega) (by omega)).mono ?_; rintro e w21 ⟨rfl, hb21⟩; obtain ⟨hc21, hf21⟩ := bcell2 hb21; have hz21 := hb21.size; (try simp only [World.size_alloc, World.size_drew, size_set] at hz21); (try simp only [World.size_alloc, World.size_drew, size_set] at hc21); (try simp only [World.size_alloc, World.size_drew, size_set] at hf21); have ly21_0 : b0 < w21.heap.size := (by omega); have BB := Lib.hid ((show Below wr.heap.size wr _ from (by first | exact Below.refl _ _ | (go_grown; done))).trans (hb21.mono (by first | omega | (simp; done) | (simp; omega)))); clear hb21)
                        | (go_at_call 34; have m_ := M2; clear m_ M2; refine (l21Bounds_any _ _ _ _ _ (by omega) (by omega) (by omega) (by omega)).mono ?_; rintro e w22 ⟨rfl, hb22⟩; obtain ⟨hc22, hf22⟩ := bcell2 hb22; have hz22 := hb22.size; (try simp only [World.size_alloc, World.size_drew, size_set] at hz22); (try simp only [World.size_alloc, World.size_drew, size_set] at hc22); (try simp only [World.size_alloc, World.size_drew, size_set] at hf22); have ly22_0 : b0 < w22.heap.size := (by omega); have BB := Lib.hid ((BB.out.trans (show Below wr.heap.size w21 _ from Below.mono (B := w21.heap.size) (by first | exact Below.refl _ _ | (go_grown; done)) (by omega))).trans (hb22.mono (by first | omega | (simp; done) | (simp; omega)))); clear hb22)
                        | (go_at_call 33; refine (l21Apart_any _ _ _ _ _).mono ?_; rintro e w23 ⟨rfl, hb23⟩; obtain ⟨hc23, hf23⟩ := bcell2 hb23; have hz23 := hb23.size; (try simp only [World.size_alloc, World.size_drew, size_set] at hz23); (try simp only [World.size_alloc, World.size_drew, size_set] at hc23); (try simp only [World.size_alloc, World.size_drew, size_set] at hf23); have ly23_0 : b0 < w23.heap.size := (by omega); have BB := Lib.hid ((BB.out.trans (show Below wr.heap.size w22 _ from Below.mono (B := w22.heap.size) (by first | exact Below.refl _ _ | (go_grown; done)) (by omega))).trans (hb23.mono (by first | omega | (simp; done) | (simp; omega)))); clear hb23))
                    all_goals go_wp2_with (at_builtin; refine appG rfl _ _ 24 rfl w.heap.size 40 (.slice none 0 0) 1 24 Try.underlying24 infoInts rfl (by omega) (prE w23.heap.size) rfl (by intro u hu; simp [prE] at hu; subst hu; rfl) _ _ _ rfl _ rfl (own_keep HO.out (Keep.of_below (show Below wr.heap.size wr _ by have hb_ := BB.out; first | exact hb_ | exact bdrewN hb_ _ | (go_grown; done) | (go_grown <;> first | exact hb_ | exact bdrewN hb_ _)))) ?_ ?_ ?_ ?_ ?_; (focus (intro q u hq; match q, hq with | 0, hq => (simp [prE] at hq; subst hq; simp [*, go_sem]) | q + 1, hq => simp [prE] at hq)); (focus (unfold maxLen; omega)); (focus omega); (focus (first | omega | (simp; omega))); intro v6 w6 hown6 hg6 hat6; have OP6 := Lib.hid (OwnP.next (x := (i : Int)) (y := (j : Int)) (bl := w23.heap.size) HY.out HI.out HN.out (Keep.of_below (show Below wr.heap.size wr _ by have hb_ := BB.out; first | exact hb_ | exact bdrewN hb_ _ | (go_grown; done) | (go_grown <;> first | exact hb_ | exact bdrewN hb_ _))) (by omega) (by omega) (by first | omega | (simp; done) | (simp; omega)) (fun q hq => by have := HO.out.lt q hq; omega) (fun o => by simp [*, go_sem]) (by simp [*, go_sem]) (by simp [*, go_sem]) hg6 hat6 rfl hown6); have C6 := Below.grow (B := w.heap.size) (w0 := w) (by have hb_ := HBr.out.trans (BB.out.mono (show w.heap.size ≤ wr.heap.size by omega)); first | exact hb_ | (go_grown; done) | exact bdrewN hb_ _) hg6 (fun q hq => by have := HO.out.lt q hq; omega) (by first | omega | (simp; omega)); clear hg6 hat6 hown6)
                    all_goals go_roundw
                    all_goals first | exact ⟨C6, j + 1, by omega, by omega, by go_num, OP6.out⟩ | (simp [intOf]; omega)
                  · have HZ := Lib.hid (show cpMid xs r i (j + 1 - (i + 1)) = cpMid xs r i (j - (i + 1)) by rw [JS.out, cpMid_no XI.out XJ.out (by simp [cpB, h1, h2])])
                    have M1 := Lib.hid True.intro; have M2 := Lib.hid True.intro
                    have WN := Lib.hid (show ∀ W, Calls Try.prog 32 #[.int .i64 a, .int .i64 b, .int .i64 a', .int .i64 b', .int .i64 r] W fun e w' => e = .returned (.bool true) ∧ W = w' from fun W => by have q := l21Within_any a b a' b' r W e1 e2 e3 e4 f1 f2 f3 f4 br1 br2; rw [decide_eq_true hn] at q; exact q)
                    go_wp2_with fail
                    go_region_held3 (fun w' => w'.cell? ⟨b0, off0 + i * 4, none⟩ = some (.int .i64 a) ∧ w'.cell? ⟨b0, off0 + i * 4 + 1, none⟩ = some (.int .i64 b) ∧ w'.cell? ⟨b0, off0 + i * 4 + 2, none⟩ = some (.int .i64 d) ∧ w'.cell? ⟨b0, off0 + i * 4 + 3, none⟩ = some (.int .i64 e) ∧ w'.cell? ⟨b0, off0 + j * 4, none⟩ = some (.int .i64 a') ∧ w'.cell? ⟨b0, off0 + j * 4 + 1, none⟩ = some (.int .i64 b') ∧ w'.cell? ⟨b0, off0 + j * 4 + 2, none⟩ = some (.int .i64 d') ∧ w'.cell? ⟨b0, off0 + j * 4 + 3, none⟩ = some (.int .i64 e')) (first | (go_keep; done) | (simp [*, go_sem]; done))
                      (first
                        | (go_at_call 32; refine (WN.out _).mono ?_; rintro e w' ⟨rfl, rfl⟩)
                        | (go_at_call 34; have m_ := M1; clear m_ M1; refine (l21Bounds_any _ _ _ _ _ (by omega) (by omega) (by omega) (by omega)).mono ?_; rintro e w21 ⟨rfl, hb21⟩; obtain ⟨hc21, hf21⟩ := bcell2 hb21; have hz21 := hb21.size; (try simp only [World.size_alloc, World.size_drew, size_set] at hz21); (try simp only [World.size_alloc, World.size_drew, size_set] at hc21); (try simp only [World.size_alloc, World.size_drew, size_set] at hf21); have ly21_0 : b0 < w21.heap.size := (by omega); have BB := Lib.hid ((show Below wr.heap.size wr _ from (by first | exact Below.refl _ _ | (go_grown; done))).trans (hb21.mono (by first | omega | (simp; done) | (simp; omega)))); clear hb21)
                        | (go_at_call 34; have m_ := M2; clear m_ M2; refine (l21Bounds_any _ _ _ _ _ (by omega) (by omega) (by omega) (by omega)).mono ?_; rintro e w22 ⟨rfl, hb22⟩; obtain ⟨hc22, hf22⟩ := bcell2 hb22; have hz22 := hb22.size; (try simp only [World.size_alloc, World.size_drew, size_set] at hz22); (try simp only [World.size_alloc, World.size_drew, size_set] at hc22); (try simp only [World.size_alloc, World.size_drew, size_set] at hf22); have ly22_0 : b0 < w22.heap.size := (by omega); have BB := Lib.hid ((BB.out.trans (show Below wr.heap.size w21 _ from Below.mono (B := w21.heap.size) (by first | exact Below.refl _ _ | (go_grown; done)) (by omega))).trans (hb22.mono (by first | omega | (simp; done) | (simp; omega)))); clear hb22)
                        | (go_at_call 33; refine (l21Apart_any _ _ _ _ _).mono ?_; rintro e w23 ⟨rfl, hb23⟩; obtain ⟨hc23, hf23⟩ := bcell2 hb23; have hz23 := hb23.size; (try simp only [World.size_alloc, World.size_drew, size_set] at hz23); (try simp only [World.size_alloc, World.size_drew, size_set] at hc23); (try simp only [World.size_alloc, World.size_drew, size_set] at hf23); have ly23_0 : b0 < w23.heap.size := (by omega); have BB := Lib.hid ((BB.out.trans (show Below wr.heap.size w22 _ from Below.mono (B := w22.heap.size) (by first | exact Below.refl _ _ | (go_grown; done)) (by omega))).trans (hb23.mono (by first | omega | (simp; done) | (simp; omega)))); clear hb23))
                    all_goals go_wp2
                    all_goals go_roundw
                    all_goals first | exact ⟨by have hb_ := HBr.out.trans (BB.out.mono (show w.heap.size ≤ wr.heap.size by omega)); first | exact hb_ | exact bdrewN hb_ _ | (go_grown; done), j + 1, by omega, by omega, by go_num, by rw [HZ.out]; exact (HP.out.below (B := wr.heap.size) (by have hb_ := BB.out; first | exact hb_ | exact bdrewN hb_ _ | (go_grown; done)) (Nat.le_refl _))⟩ | (simp [intOf]; omega)
              · have HZ := Lib.hid (show cpMid xs r i (j + 1 - (i + 1)) = cpMid xs r i (j - (i + 1)) by rw [JS.out, cpMid_no XI.out XJ.out (by simp [cpB, hn])])
                have M1 := Lib.hid True.intro; have M2 := Lib.hid True.intro
                have WN := Lib.hid (show ∀ W, Calls Try.prog 32 #[.int .i64 a, .int .i64 b, .int .i64 a', .int .i64 b', .int .i64 r] W fun e w' => e = .returned (.bool false) ∧ W = w' from fun W => by have q := l21Within_any a b a' b' r W e1 e2 e3 e4 f1 f2 f3 f4 br1 br2; rw [decide_eq_false hn] at q; exact q)
                go_wp2_with fail
                go_quiet ((go_at_call 32; exact (WN.out _).mono fun _ _ h => ⟨h.1, _, h.2.symm⟩))
                all_goals go_wp2
                all_goals go_roundw
                all_goals first | exact ⟨by have hb_ := HBr.out; first | exact hb_ | exact bdrewN hb_ _ | (go_grown; done), j + 1, by omega, by omega, by go_num, by rw [HZ.out]; exact (HP.out.below (B := wr.heap.size) (by first | exact Below.refl _ _ | exact bdrewN (Below.refl _ _) _ | (go_grown; done)) (Nat.le_refl _))⟩ | (simp [intOf]; omega)
            · obtain rfl : j = xs.length := by omega
              go_wp2
              go_roundw
              all_goals first | exact ⟨HBr.out, i + 1, by omega, by go_num, by have q := HP.out; rw [cpMid_end rfl] at q; exact q⟩ | (simp [intOf]; omega)
        · obtain rfl : i = xs.length := by omega
          go_wp2
          go_ret2
          obtain ⟨e1, e2⟩ := OwnP.res HP.out
          exact ⟨⟨A', c', by rw [HE.out.1, HE.out.2, ← e1]; rfl, by rw [HE.out.2]; exact e2.mono (by omega) (Nat.le_refl _)⟩, Br⟩
    · have HE := Lib.hid (cp_bad (xs := xs) (r := r) (e := 2) (by simp [cpE, hv, hr]) (by decide))
      go_enter Try.func7, Try.ntmps7
      go_wp2_with (first
      | (go_at_call 31; refine (l21Code_any _ _ _ _ _ HX.out).mono ?_; rintro e w1 ⟨rfl, hb1⟩; obtain ⟨B1, hz1, q1, s1, t1, x1, y1, z1⟩ := bkeep (w := w) [] (by first | (simp; done) | (simp; omega)) (by first | (go_grown; done) | exact bdrewN (by go_grown) _) hb1; (try simp at hz1); clear hb1))
      go_ret2
      exact ⟨⟨none, 0, by rw [HE.out.1, HE.out.2]; rfl, by rw [HE.out.2]; exact ResPP.nil _ _ _ _ _ (by omega)⟩, B1⟩
  · have HE := Lib.hid (cp_bad (xs := xs) (r := r) (e := 1) (by simp [cpE, hv]) (by decide))
    go_enter Try.func7, Try.ntmps7
    go_wp2_with (first
      | (go_at_call 31; refine (l21Code_any _ _ _ _ _ HX.out).mono ?_; rintro e w1 ⟨rfl, hb1⟩; obtain ⟨B1, hz1, q1, s1, t1, x1, y1, z1⟩ := bkeep (w := w) [] (by first | (simp; done) | (simp; omega)) (by first | (go_grown; done) | exact bdrewN (by go_grown) _) hb1; (try simp at hz1); clear hb1))
    go_ret2
    exact ⟨⟨none, 0, by rw [HE.out.1, HE.out.2]; rfl, by rw [HE.out.2]; exact ResPP.nil _ _ _ _ _ (by omega)⟩, B1⟩
end Go.Proofs.Ytbbnnahjghlnoaa
