/- ThinSoundings, by the program: a map of the squares, ranged over, sorted. -/
import Derived.Test.YtbbnnahjghlnoaaTh1
import Derived.Test.YtbbnnahjghlnoaaNear
import Derived.Test.YtbbnnahjghlnoaaShelf
import Derived.Test.YtbbnnahjghlnoaaOwnK
import Derived.Sort.OwnSortedInts
import Derived.Deep.RegionHeld3
import Derived.Deep.DeepCutAuto
import Derived.BigRegion
import Derived.IntWalk
namespace Go.Proofs.Ytbbnnahjghlnoaa
set_option linter.unusedSimpArgs false
set_option linter.unusedVariables false
open Go.RowKit Go.Maps Go.Sort

theorem genT {P S : World → Prop} {w0 : World} (h0 : S w0) (h : ∀ w, S w → P w) : P w0 := h w0 h0
theorem bcellT {W w1 : World} (hb : Below W.heap.size W w1) : (∀ b o, b < W.heap.size → w1.cell? ⟨b, o, none⟩ = W.cell? ⟨b, o, none⟩) ∧ (∀ b o, b < W.heap.size → w1.frozen? ⟨b, o, none⟩ = W.frozen? ⟨b, o, none⟩) :=
  ⟨fun b o h => hb.cell (p := ⟨b, o, none⟩) h, fun b o h => hb.frozen (p := ⟨b, o, none⟩) h⟩
theorem zeroI64 (w : World) : (zeroValue 2).run Try.prog w = .ok (.int .i64 0) w := by kernel_rfl
/-- the map's reader -/
noncomputable abbrev eltI : Value → Option (DataW Unit × List MemPlace) := plainElem Try.prog 2
theorem maps_below {w w1 : World} {b n B : Nat} {D : DataW Unit} (h : w.ownsMap Try.prog 73 eltI b n D) (hb : Below B w w1) (hB : b < B) : w1.ownsMap Try.prog 73 eltI b n D := by
  obtain ⟨es, clock, h1, F, hs, rfl⟩ := h
  exact ⟨es, clock, (hb.block b hB).trans h1, F, hs, rfl⟩
theorem ranges_below {w w1 : World} {b r n cnt B : Nat} {D : DataW Unit} {left : Lit → Bool} (h : w.ranges Try.prog 73 eltI b r n D left cnt) (hb : Below B w w1) (h1 : b < B) (h2 : r < B) : w1.ranges Try.prog 73 eltI b r n D left cnt := by
  obtain ⟨es, clock, since, seen, c0, g, F, hs, hD, hr, rest⟩ := h
  exact ⟨es, clock, since, seen, c0, (hb.block b h1).trans g, F, hs, hD, (hb.block r h2).trans hr, rest⟩
theorem OwnI.keptG {w w1 : World} {base : Nat} {row : Option Nat} {v : Value} {L : List Int} (h : OwnI w base v L) (hg : w.grownBy w1 row) (hr : ∀ j, row = some j → j < base) : OwnI w1 base v L := by
  obtain ⟨A, c, rfl, hc, ho⟩ := h
  refine ⟨A, c, rfl, hc, ho.kept hg ?_⟩
  have hlt := ho.lt
  rcases hv : (Value.slice A L.length c).ownBlock with _ | g2
  · exact .inl rfl
  · refine .inr fun e => ?_
    have := hr g2 e.symm
    have := (hlt g2 hv).1
    omega

set_option maxRecDepth 20000 in
set_option maxHeartbeats 8000000 in
theorem implThin_any (A : Option Addr) (c : Nat) (xs : List Snd) (r : Int) (w : World) (hx : SndsAt w A c xs) :
    Calls Try.prog 27 #[.slice A xs.length c, .int .i64 r] w fun e w' =>
      (∃ A' c', e = .returned (.tuple #[.slice A' (thL xs r).length c', .int .i64 (thE xs r)]) ∧ ResI w' w.heap.size w'.heap.size A' c' (thL xs r)) ∧ Below w.heap.size w w' := by
  have hn := Nat.le_trans hx.1 hx.2.1
  have HX := Lib.hid hx; clear hx
  have hmm := @run_makeMap Try.prog
  by_cases hv : sndsB xs = true
  · by_cases hr : inB r 1 10000 = true
    · have HE := Lib.hid (th_ok hv hr)
      have h200 := snds_len hv
      obtain ⟨br1, br2⟩ := inB_bd hr
      have HV := Lib.hid hv
      have hr0 : (r == 0) = false := beq_eq_false_iff_ne.2 (by omega)
      go_enter Try.func27, Try.ntmps27
      go_wp2_with (first
        | (go_at_call 36; refine (implAreSoundings_any _ _ _ _ HX.out).mono ?_; rintro e w1 ⟨rfl, hb1⟩; obtain ⟨B1, hz1, q1, s1, t1, x1, y1, z1⟩ := bkeep (w := w) [] (by first | (simp; done) | (simp; omega)) (by first | (go_grown; done) | exact bdrewN (by go_grown) _) hb1; (try simp at hz1); clear hb1)
        | (go_at_call 48; refine (within_any _ _ _ _).mono ?_; rintro e w' ⟨rfl, rfl⟩))
      clear hmm
      go_loopw [26] (fun i wr => Below w.heap.size w wr ∧ ∃ (k : Nat) (D : DataW Unit), k ≤ xs.length ∧ i = .int .i64 k ∧ wr.ownsMap Try.prog 73 eltI w1.heap.size k D ∧ MapOK xs r k D) (fun i _ => xs.length - (intOf i).toNat)
      case atStart => exact ⟨by go_grown, 0, _, by omega, rfl, World.ownsMap_made _ _ _ _, MapOK.zero _ _⟩
      case round =>
        obtain ⟨Br, k, D, hk, rfl, hown, hmok⟩ := hrel
        have hBl := hown.lt
        have sr := Br.size
        have HB := Lib.hid Br; have HM := Lib.hid hown; have HK := Lib.hid hmok; clear hown hmok
        by_cases hlt : k < xs.length
        · obtain ⟨b0, off0, x, y, d, e, rfl, hb0, hxk, p0, p1, p2, p3⟩ := HX.out.at_ hlt
          obtain ⟨e1, e2, e3, e4⟩ := snd_xy HV.out hxk
          obtain ⟨g1, g2, g3, g4⟩ := snd_bd HV.out hxk
          have hj1 : (0 : Int) ≤ (k : Int) := Int.natCast_nonneg _
          have hj2 : (k : Int) < (xs.length : Int) := by omega
          have tr := bold Br
          have c0 := (tr _ _ hb0).trans p0
          have c1 := (tr _ _ hb0).trans p1
          have c2 := (tr _ _ hb0).trans p2
          have c3 := (tr _ _ hb0).trans p3
          have lb0 : b0 < wr.heap.size := by omega
          have XK := Lib.hid hxk
          clear hxk p0 p1 p2 p3 tr Br
          go_wp2_with fail
          refine genT (S := fun w' => Below wr.heap.size wr w' ∧ wr.heap.size < w'.heap.size ∧ w'.cell? ⟨wr.heap.size, 0, none⟩ = some (.int .i64 x) ∧ w'.cell? ⟨wr.heap.size, 1, none⟩ = some (.int .i64 y) ∧ w'.cell? ⟨wr.heap.size, 2, none⟩ = some (.int .i64 d) ∧ w'.cell? ⟨wr.heap.size, 3, none⟩ = some (.int .i64 e)) ⟨by go_grown, by simp, by simp [*, go_sem], by simp [*, go_sem], by simp [*, go_sem], by simp [*, go_sem]⟩ ?_
          rintro w2 ⟨B2, lt2, s0, s1, s2, s3⟩
          clear c0 c1 c2 c3
          have HB2 := Lib.hid B2; clear B2
          obtain ⟨q1, hq1⟩ : ∃ q, q = x.tdiv r := ⟨_, rfl⟩
          obtain ⟨q2, hq2⟩ : ∃ q, q = y.tdiv r := ⟨_, rfl⟩
          have hic : InC (q1, q2) := by have := thQ_in (r := r) HV.out br1 hlt; rw [thQ_of XK.out, ← hq1, ← hq2] at this; exact this
          have TQ := Lib.hid (show thQ xs r k = (q1, q2) by rw [thQ_of XK.out, hq1, hq2])
          have HI := Lib.hid hic
          have u1 : 0 ≤ q1 ∧ q1 ≤ 10000 := hic.1
          have u2 : 0 ≤ q2 ∧ q2 ≤ 10000 := hic.2
          replace hq1 := hq1.symm; replace hq2 := hq2.symm
          have W1 : IntKind.i64.wrap q1 = q1 := IntWalk.i64_in _ (by omega)
          have W2 : IntKind.i64.wrap q2 = q2 := IntWalk.i64_in _ (by omega)
          clear hic
          go_region
          have lt2' : wr.heap.size < w2.heap.size := lt2
          refine genT (S := fun w' => Below wr.heap.size wr w' ∧ wr.heap.size < w'.heap.size ∧ w2.heap.size < w'.heap.size ∧ w'.cell? ⟨wr.heap.size, 0, none⟩ = some (.int .i64 x) ∧ w'.cell? ⟨wr.heap.size, 1, none⟩ = some (.int .i64 y) ∧ w'.cell? ⟨wr.heap.size, 2, none⟩ = some (.int .i64 d) ∧ w'.cell? ⟨wr.heap.size, 3, none⟩ = some (.int .i64 e) ∧ w'.cell? ⟨w2.heap.size, 0, none⟩ = some (.int .i64 q1) ∧ w'.cell? ⟨w2.heap.size, 1, none⟩ = some (.int .i64 q2)) ⟨by have hb_ := HB2.out; go_grown, by first | omega | (simp; done) | (simp; omega), by first | omega | (simp; done) | (simp; omega), by simp [*, go_sem], by simp [*, go_sem], by simp [*, go_sem], by simp [*, go_sem], by simp [*, go_sem], by simp [*, go_sem]⟩ ?_
          rintro w3 ⟨B3, lt3, lt3', s4, s5, s6, s7, p4, p5⟩
          clear s0 s1 s2 s3 W1 W2 hq1 hq2 lt2 lt2'
          have M3 := Lib.hid (maps_below HM.out B3 hBl)
          have HB3 := Lib.hid (HB.out.trans (B3.mono (show w.heap.size ≤ wr.heap.size by omega)))
          have z3 : wr.heap.size ≤ w3.heap.size := B3.size
          clear HM B3 HB2
          obtain ⟨pb, hpb⟩ : ∃ pb, pb = w2.heap.size := ⟨_, rfl⟩
          rw [← hpb] at lt3' p4 p5 ⊢
          clear hpb
          cases hs : Maps.has D (keyC (q1, q2)) with
          | false =>
            have HW := Lib.hid (thM_new TQ.out (HK.out.no hs))
            have IM := Lib.hid (M3.out.isMap)
            go_wp2_with (at_lookup; refine wpList_lookup_own_ok_int _ rfl _ _ 71 rfl 73 2 .i64 lawPt Try.underlying71 Try.underlying2 (zeroI64 _) w1.heap.size k D rfl M3.out _ _ rfl (keyC_of HI.out) ?_; intro cc hat hwc; rw [hs])
            go_region
            all_goals go_wp2_with (at_mapUpdate; refine wpList_mapUpdate_own _ rfl _ _ _ 71 rfl 73 2 lawPt Try.underlying71 _ w1.heap.size k _ rfl M3.out (by unfold maxLen; omega) _ _ _ rfl rfl (keyC_of HI.out) _ [] (plainElem_int Try.underlying2 (WalkArith.wf_i64 (by omega))) ?_; intro w4 hown4 hg4)
            all_goals go_roundw
            all_goals first | exact ⟨Below.grow (by have hb_ := HB3.out; first | with_reducible exact hb_ | exact bdrewN hb_ _ | (go_grown; done)) hg4 (fun j hj => by cases hj; omega) (by have := HB3.out.size; first | omega | (simp; omega)), k + 1, _, by omega, by go_num, hown4, HK.out.put IM.out HV.out br1 hlt TQ.out HW.out⟩ | (simp [intOf]; omega)
          | true =>
            obtain ⟨m, hm, hatm⟩ := HK.out.yes HV.out br1 (by omega) HI.out hs
            have hmk := (thM_some hm).1
            have HMM := Lib.hid hm; have HA := Lib.hid hatm; clear hm hatm
            obtain ⟨b0', off0', x', y', d', e', hA', hb0', hxm, p6, p7, p8, p9⟩ := HX.out.at_ (show m < xs.length by omega)
            simp only [Option.some.injEq, Addr.mk.injEq, and_true] at hA'; obtain ⟨rfl, rfl⟩ := hA'
            obtain ⟨g5, g6, g7, g8⟩ := snd_bd HV.out hxm
            have hm1 : (0 : Int) ≤ (m : Int) := Int.natCast_nonneg _
            have hm2 : (m : Int) < (xs.length : Int) := by omega
            have tr := bold HB3.out
            have c6 := (tr _ _ hb0').trans p6
            have c7 := (tr _ _ hb0').trans p7
            have c8 := (tr _ _ hb0').trans p8
            have c9 := (tr _ _ hb0').trans p9
            have XM := Lib.hid hxm
            clear hxm p6 p7 p8 p9 tr
            have lb3 : b0 < w3.heap.size := by omega
            have IM := Lib.hid (M3.out.isMap)
            go_wp2_with (at_lookup; refine wpList_lookup_own_ok_int _ rfl _ _ 71 rfl 73 2 .i64 lawPt Try.underlying71 Try.underlying2 (zeroI64 _) w1.heap.size k D rfl M3.out _ _ rfl (keyC_of HI.out) ?_; intro cc hat hwc; rw [hs]; obtain rfl := lit_inj ((HA.out _).symm.trans hat); clear hat hwc)
            by_cases hlow : d - e < d' - e'
            · have HW := Lib.hid (thM_less TQ.out HMM.out (by rw [lowAt_of XK.out, lowAt_of XM.out]; exact hlow))
              have TK1 := Lib.hid True.intro
              go_region_held3 (fun w' => (w'.cell? ⟨wr.heap.size, 0, none⟩ = some (.int .i64 x) ∧ w'.cell? ⟨wr.heap.size, 1, none⟩ = some (.int .i64 y) ∧ w'.cell? ⟨wr.heap.size, 2, none⟩ = some (.int .i64 d) ∧ w'.cell? ⟨wr.heap.size, 3, none⟩ = some (.int .i64 e)) ∧ (w'.cell? ⟨b0, off0 + m * 4, none⟩ = some (.int .i64 x') ∧ w'.cell? ⟨b0, off0 + m * 4 + 1, none⟩ = some (.int .i64 y') ∧ w'.cell? ⟨b0, off0 + m * 4 + 2, none⟩ = some (.int .i64 d') ∧ w'.cell? ⟨b0, off0 + m * 4 + 3, none⟩ = some (.int .i64 e')) ∧ (w'.cell? ⟨pb, 0, none⟩ = some (.int .i64 q1) ∧ w'.cell? ⟨pb, 1, none⟩ = some (.int .i64 q2))) (first | (go_keep; done) | (simp [*, go_sem]; done))
                (first
                  | (go_at_call 38; have m_ := TK1; clear m_ TK1; refine (bounds_any _ _ _ _ _ (by omega) (by omega) (by omega) (by omega)).mono ?_; rintro e_ w21 ⟨rfl, hb21⟩; obtain ⟨hc21, hf21⟩ := bcellT hb21; have hz21 := hb21.size; (try simp only [World.size_alloc, World.size_drew, size_set] at hz21); (try simp only [World.size_alloc, World.size_drew, size_set] at hc21); (try simp only [World.size_alloc, World.size_drew, size_set] at hf21); have la21 : b0 < w21.heap.size := (by omega); have lb21 : wr.heap.size < w21.heap.size := (by omega); have lc21 : pb < w21.heap.size := (by omega); have BB := Lib.hid ((show Below w3.heap.size w3 _ from (by first | exact Below.refl _ _ | (go_grown; done))).trans (hb21.mono (by first | omega | (simp; done) | (simp; omega)))); clear hb21)
                  | (go_at_call 38; refine (bounds_any _ _ _ _ _ (by omega) (by omega) (by omega) (by omega)).mono ?_; rintro e_ w22 ⟨rfl, hb22⟩; obtain ⟨hc22, hf22⟩ := bcellT hb22; have hz22 := hb22.size; (try simp only [World.size_alloc, World.size_drew, size_set] at hz22); (try simp only [World.size_alloc, World.size_drew, size_set] at hc22); (try simp only [World.size_alloc, World.size_drew, size_set] at hf22); have la22 : b0 < w22.heap.size := (by omega); have lb22 : wr.heap.size < w22.heap.size := (by omega); have lc22 : pb < w22.heap.size := (by omega); have BB := Lib.hid ((BB.out.trans (show Below w3.heap.size w21 _ from Below.mono (B := w21.heap.size) (by first | exact Below.refl _ _ | (go_grown; done)) (by omega))).trans (hb22.mono (by first | omega | (simp; done) | (simp; omega)))); clear hb22))
              all_goals go_wp2_with (at_mapUpdate; refine wpList_mapUpdate_own _ rfl _ _ _ 71 rfl 73 2 lawPt Try.underlying71 _ w1.heap.size k _ rfl (maps_below M3.out (B := w3.heap.size) (by have hb_ := BB.out; first | with_reducible exact hb_ | exact bdrewN hb_ _ | (go_grown; done)) (by omega)) (by unfold maxLen; omega) _ _ _ rfl rfl (keyC_of HI.out) _ [] (plainElem_int Try.underlying2 (WalkArith.wf_i64 (by omega))) ?_; intro w4 hown4 hg4)
              all_goals go_roundw
              all_goals first | exact ⟨Below.grow (by have hb_ := HB3.out.trans (BB.out.mono (show w.heap.size ≤ w3.heap.size by omega)); first | with_reducible exact hb_ | exact bdrewN hb_ _ | (go_grown; done)) hg4 (fun j hj => by cases hj; omega) (by have := HB3.out.size; first | omega | (simp; omega)), k + 1, _, by omega, by go_num, hown4, HK.out.put IM.out HV.out br1 hlt TQ.out HW.out⟩ | (simp [intOf]; omega)
            · have HW := Lib.hid ((thM_stay TQ.out HMM.out (by rw [lowAt_of XK.out, lowAt_of XM.out]; exact hlow)).trans HMM.out.symm)
              have TK1 := Lib.hid True.intro
              go_region_held3 (fun w' => (w'.cell? ⟨wr.heap.size, 0, none⟩ = some (.int .i64 x) ∧ w'.cell? ⟨wr.heap.size, 1, none⟩ = some (.int .i64 y) ∧ w'.cell? ⟨wr.heap.size, 2, none⟩ = some (.int .i64 d) ∧ w'.cell? ⟨wr.heap.size, 3, none⟩ = some (.int .i64 e)) ∧ (w'.cell? ⟨b0, off0 + m * 4, none⟩ = some (.int .i64 x') ∧ w'.cell? ⟨b0, off0 + m * 4 + 1, none⟩ = some (.int .i64 y') ∧ w'.cell? ⟨b0, off0 + m * 4 + 2, none⟩ = some (.int .i64 d') ∧ w'.cell? ⟨b0, off0 + m * 4 + 3, none⟩ = some (.int .i64 e')) ∧ (w'.cell? ⟨pb, 0, none⟩ = some (.int .i64 q1) ∧ w'.cell? ⟨pb, 1, none⟩ = some (.int .i64 q2))) (first | (go_keep; done) | (simp [*, go_sem]; done))
                (first
                  | (go_at_call 38; have m_ := TK1; clear m_ TK1; refine (bounds_any _ _ _ _ _ (by omega) (by omega) (by omega) (by omega)).mono ?_; rintro e_ w21 ⟨rfl, hb21⟩; obtain ⟨hc21, hf21⟩ := bcellT hb21; have hz21 := hb21.size; (try simp only [World.size_alloc, World.size_drew, size_set] at hz21); (try simp only [World.size_alloc, World.size_drew, size_set] at hc21); (try simp only [World.size_alloc, World.size_drew, size_set] at hf21); have la21 : b0 < w21.heap.size := (by omega); have lb21 : wr.heap.size < w21.heap.size := (by omega); have lc21 : pb < w21.heap.size := (by omega); have BB := Lib.hid ((show Below w3.heap.size w3 _ from (by first | exact Below.refl _ _ | (go_grown; done))).trans (hb21.mono (by first | omega | (simp; done) | (simp; omega)))); clear hb21)
                  | (go_at_call 38; refine (bounds_any _ _ _ _ _ (by omega) (by omega) (by omega) (by omega)).mono ?_; rintro e_ w22 ⟨rfl, hb22⟩; obtain ⟨hc22, hf22⟩ := bcellT hb22; have hz22 := hb22.size; (try simp only [World.size_alloc, World.size_drew, size_set] at hz22); (try simp only [World.size_alloc, World.size_drew, size_set] at hc22); (try simp only [World.size_alloc, World.size_drew, size_set] at hf22); have la22 : b0 < w22.heap.size := (by omega); have lb22 : wr.heap.size < w22.heap.size := (by omega); have lc22 : pb < w22.heap.size := (by omega); have BB := Lib.hid ((BB.out.trans (show Below w3.heap.size w21 _ from Below.mono (B := w21.heap.size) (by first | exact Below.refl _ _ | (go_grown; done)) (by omega))).trans (hb22.mono (by first | omega | (simp; done) | (simp; omega)))); clear hb22))
              all_goals go_wp2
              all_goals go_roundw
              all_goals first | exact ⟨by have hb_ := HB3.out.trans (BB.out.mono (show w.heap.size ≤ w3.heap.size by omega)); first | with_reducible exact hb_ | exact bdrewN hb_ _ | (go_grown; done), k + 1, _, by omega, by go_num, (maps_below M3.out (B := w3.heap.size) (by have hb_ := BB.out; first | with_reducible exact hb_ | exact bdrewN hb_ _ | (go_grown; done)) (by omega)).mono (by omega), HK.out.stay TQ.out HW.out⟩ | (simp [intOf]; omega)
        · obtain rfl : k = xs.length := by omega
          have hsz := HM.out.size_le
          go_wp2_with (at_range; refine wpList_range_own _ rfl _ 71 rfl 73 2 lawPt Try.underlying71 eltI w1.heap.size xs.length D rfl HM.out ?_; intro w0 hrg0 hg0 hs0)
          go_frame
          have BL0 := Lib.hid (Below.grow HB.out hg0 (fun j hj => by cases hj) HB.out.size)
          obtain ⟨r0, hr0'⟩ : ∃ r0, r0 = wr.heap.size := ⟨_, rfl⟩
          rw [← hr0'] at hrg0 hs0 hBl ⊢
          have lr0 : r0 < w0.heap.size := by omega
          have lw0 : w.heap.size ≤ w0.heap.size := by omega
          clear hs0 hg0 hr0' HB HM Br sr
          go_loopw [12] (fun o wr => Below w.heap.size w wr ∧ w0.heap.size ≤ wr.heap.size ∧ ∃ (left : Lit → Bool) (cnt : Nat) (out : List Int), wr.ranges Try.prog 73 eltI w1.heap.size r0 xs.length D left cnt ∧ out.length + cnt ≤ xs.length ∧ OwnI wr w0.heap.size o out ∧ OutOK D left out) (fun _ wr => wr.rangeLeft w1.heap.size r0)
          case atStart => exact ⟨BL0.out, Nat.le_refl _, _, _, [], hrg0, by simpa using hsz, OwnI.none_ _ _, OutOK.start D⟩
          case round =>
            obtain ⟨Br, zr, left, cnt, out, hrg, hcs, hown2, hout⟩ := hrel
            have HBR := Lib.hid Br; have HRG := Lib.hid hrg; have HOU := Lib.hid hout; clear Br hrg hout hrg0
            obtain ⟨A', c', rfl, hc', ho⟩ := id hown2
            have HOI := Lib.hid hown2; have HO := Lib.hid ho; clear hown2 ho
            go_wp2_with (at_next; refine wpList_next_ranges _ rfl _ rfl 73 lawPt eltI (fun v : Value => v) (Value.int .i64) (fun key kl hk => ⟨key, rfl⟩) (fun v y hv => by obtain ⟨c, rfl, _⟩ := plainElem_int_inv Try.underlying2 hv; exact ⟨c, rfl⟩) w1.heap.size r0 xs.length _ _ _ rfl HRG.out ?_ ?_)
            · intro hc0 hl0
              have hsd := Lib.hid (th_sorted HOU.out.nd (HOU.out.done HK.out HV.out br1 (Nat.le_refl _) hl0))
              have hlen := Lib.hid (show (thTo xs r xs.length).length = out.length by rw [← hsd.out, List.length_mergeSort])
              clear hl0 hc0
              rcases HO.out.2 with ⟨hnil, h0⟩ | ⟨g, cap, cur, hv_, hbase, hb, h1, h2, h3, h4⟩
              · injection hnil with i1 i2 i3
                subst i1 i3
                have hnl : out = [] := List.eq_nil_of_length_eq_zero i2
                subst hnl
                clear i2 h0
                go_wp2_with (go_at_call 49; refine (Try.slices_Sort_int_none none 0 wr).mono ?_; rintro e_ w5 ⟨rfl, rfl⟩)
                go_ret2
                have ht : thTo xs r xs.length = [] := List.eq_nil_of_length_eq_zero hlen.out
                exact ⟨⟨none, 0, by rw [HE.out.1, HE.out.2, ht]; rfl, by rw [HE.out.2, ht]; exact ResI.nil _ _ _ _ _ (by omega)⟩, HBR.out⟩
              · injection hv_ with i1 i2 i3
                subst i1 i3
                have hH : Holds (Value.int .i64) wr g 0 out.toArray := holds_of_blockI hb (by simpa using h4)
                have hgl : g < wr.heap.size := (Array.getElem?_eq_some_iff.1 hb).1
                have hc := Lib.hid (Try.slices_Sort_int g 0 c' out wr hH hgl (by omega))
                have HSO := Lib.hid (fun (nn : Nat) (os : Array Obj) => ownsRow_sortedI (n := nn) (os := os) (ss := out) (ts := out.mergeSort fun x y => decide (x ≤ y)) (List.length_mergeSort _) hbase hb h1 h2 h3)
                clear hH h4 hb i2 h1 h2 h3
                go_wp2_with (go_at_call 49; refine hc.out.mono ?_; rintro e_ w5 ⟨rfl, nn, os, rfl⟩)
                go_ret2
                have ho5 := HSO.out nn os
                rw [hsd.out] at ho5 ⊢
                refine ⟨⟨some ⟨g, 0, none⟩, c', by rw [HE.out.1, HE.out.2, hlen.out]; rfl, ?_⟩, Below.grow HBR.out (grownBy_sortedI _) (fun j hj => by cases hj; omega) HBR.out.size⟩
                rw [HE.out.2]
                refine ResI.mono (OwnI.res (base := w0.heap.size) ⟨some ⟨g, 0, none⟩, c', rfl, hc', ?_⟩) (by omega) (Nat.le_refl _)
                rw [hlen.out]
                exact ho5
            · intro xk cc kl yd yp w2 cnt2 hkey hlk hv2 hat hrg2 hlt2 hg2 hs2 hen
              obtain ⟨c2, ec, ey, hwf⟩ := plainElem_int_inv Try.underlying2 hv2
              injection ec with _ ec
              subst ec
              have HAT := Lib.hid (show ∀ z, D.atKey kl z = .lit (.int .i64 cc) from fun z => (hat z).trans (congrArg Prod.fst ey))
              have BW := Lib.hid (Below.grow HBR.out hg2 (fun j hj => by cases hj; omega) HBR.out.size)
              have z2 : wr.heap.size ≤ w2.heap.size := hg2.size
              obtain ⟨A2, c2, e2, hc2, ho2⟩ := HOI.out.keptG hg2 (fun j hj => by cases hj; omega)
              injection e2 with i1 i2 i3
              subst i1 i3
              have HO2 := Lib.hid ho2; have HRG2 := Lib.hid hrg2; have HLK := Lib.hid hlk; have HLT := Lib.hid hlt2
              clear hs2 hg2 ho2 hrg2 hlk hlt2 hat ey hv2 hkey hwf HO i2
              go_wp2_with (at_builtin; refine app1 rfl _ _ 40 rfl w0.heap.size 2 (.int .i64 0) 8 Try.underlying40 infoInt2 rfl (.int .i64 cc) rfl _ _ _ rfl _ rfl (owns_below (B := w2.heap.size) HO2.out ?_ (Nat.le_refl _)) ?_ ?_ ?_ ?_ ?_; (focus (first | (go_grown; done) | (refine bdrewN ?_ _; go_grown; done) | exact Below.alloc (bdrewN (Below.refl _ _) _) (Nat.le_refl _) _)); (focus (first | (simp; done) | exact (World.cell?_alloc_new (w := _) _ _ _).trans rfl)); (focus (unfold maxLen; omega)); (focus omega); (focus (first | omega | (simp; omega))); intro v5 w5 hown5 hb5)
              have RB := ranges_below HRG2.out (show Below w0.heap.size w2 w5 from Below.trans (by go_grown) hb5) (by omega) (by omega)
              go_roundw
              case rel => exact ⟨Below.trans (show Below w.heap.size w _ from by have hb_ := BW.out; go_grown) (hb5.mono (by omega)), by have := hb5.size; simp at this; omega, _, cnt2, out ++ [cc], RB, by have := HLT.out; simp; omega, OwnI.next rfl hown5, HOU.out.step HK.out HLK.out HAT.out⟩
              case measure => rw [RB.left_eq, HRG.out.left_eq]; exact HLT.out
    · have HE := Lib.hid (th_bad (xs := xs) (r := r) (e := 2) (by simp [thE, hv, hr]) (by decide))
      go_enter Try.func27, Try.ntmps27
      go_wp2_with (first
        | (go_at_call 36; refine (implAreSoundings_any _ _ _ _ HX.out).mono ?_; rintro e w1 ⟨rfl, hb1⟩; obtain ⟨B1, hz1, q1, s1, t1, x1, y1, z1⟩ := bkeep (w := w) [] (by first | (simp; done) | (simp; omega)) (by first | (go_grown; done) | exact bdrewN (by go_grown) _) hb1; (try simp at hz1); clear hb1)
        | (go_at_call 48; refine (within_any _ _ _ _).mono ?_; rintro e w' ⟨rfl, rfl⟩))
      go_ret2
      exact ⟨⟨none, 0, by rw [HE.out.1, HE.out.2]; rfl, by rw [HE.out.2]; exact ResI.nil _ _ _ _ _ (by omega)⟩, B1⟩
  · have HE := Lib.hid (th_bad (xs := xs) (r := r) (e := 1) (by simp [thE, hv]) (by decide))
    go_enter Try.func27, Try.ntmps27
    go_wp2_with (go_at_call 36; refine (implAreSoundings_any _ _ _ _ HX.out).mono ?_; rintro e w1 ⟨rfl, hb1⟩; obtain ⟨B1, hz1, q1, s1, t1, x1, y1, z1⟩ := bkeep (w := w) [] (by first | (simp; done) | (simp; omega)) (by first | (go_grown; done) | exact bdrewN (by go_grown) _) hb1; (try simp at hz1); clear hb1)
    go_ret2
    exact ⟨⟨none, 0, by rw [HE.out.1, HE.out.2]; rfl, by rw [HE.out.2]; exact ResI.nil _ _ _ _ _ (by omega)⟩, B1⟩
end Go.Proofs.Ytbbnnahjghlnoaa
