/- The law of FnTraces: stepping a ray is tracing it, its ranges never fall, and it never comes to a knot that it cannot cross. -/
import Derived.Test.YtmgmhaikehjddaaDrawTrace
import Derived.Test.YtmgmhaikehjddaaRanges
import Derived.Test.YtmgmhaikehjddaaCellB
import Derived.Test.YtmgmhaikehjddaaStepRay
import Derived.Test.YtmgmhaikehjddaaState
import Derived.Test.YtmgmhaikehjddaaTrB
import Derived.Deep.QuietTactic
import Derived.BigQuiet
import Derived.Deep.RegionHeld3
import Derived.Deep.Cut
namespace Go.Proofs.Ytmgmhaikehjddaa
set_option linter.unusedSimpArgs false
set_option linter.unusedVariables false
open Go.RowKit


set_option maxHeartbeats 2000000 in
theorem likeRanges9_same (A A' : Option Addr) (c c' n : Nat) (els : List (List Value)) (w : World) (hx : KAt w A c 2 els) (hx' : KAt w A' c' 2 els) (hl : els.length = n) (hi : ∀ e ∈ els, ∃ x : Int × Int, e = ivCell x) :
    Calls Try.prog 71 #[.slice A n c, .slice A' n c'] w fun e w' => e = .returned (.bool true) ∧ Below w.heap.size w w' := by
  have hn := Nat.le_trans hx.1 hx.2.1
  have hl1 : els.length ≤ n := by omega
  have hl2 : n ≤ els.length := by omega
  have HX := Lib.hid hx; have HX' := Lib.hid hx'; have HI := Lib.hid hi
  clear hx hx' hl hi
  go_enter Try.func71, Try.ntmps71
  go_wp2
  go_loopw [5] (fun i wr => Below w.heap.size w wr ∧ ∃ k : Nat, k ≤ n ∧ i = .int .i64 k) (fun i _ => n - (intOf i).toNat)
  case atStart => exact ⟨Below.refl _ _, 0, by omega, rfl⟩
  case round =>
    obtain ⟨Br, k, hk, rfl⟩ := hrel
    have HB := Lib.hid Br
    by_cases hlt : k < n
    · obtain ⟨b, off, e, rfl, hb, he, hc⟩ := (HX.out.below Br (Nat.le_refl _)).at_ (i := k) (by omega)
      obtain ⟨b', off', e', rfl, hb', he', hc'⟩ := (HX'.out.below Br (Nat.le_refl _)).at_ (i := k) (by omega)
      rw [he] at he'
      simp only [Option.some.injEq] at he'
      subst he'
      obtain ⟨⟨x, y⟩, rfl⟩ := HI.out e (List.mem_of_getElem? he)
      have d0 := hc 0 _ rfl; have d1 := hc 1 _ rfl; have e0 := hc' 0 _ rfl; have e1 := hc' 1 _ rfl
      rw [Nat.add_zero] at d0 e0
      clear hc hc' he Br
      have hk0 : (0 : Int) ≤ (k : Int) := Int.natCast_nonneg _
      have hk1 : (k : Int) < n := by omega
      go_wp2_with fail
      go_quiet (fail)
      go_wp2
      go_roundw
      case rel => exact ⟨(by first | exact HB.out | (have hb_ := HB.out; go_grown; done) | (have hb_ := HB.out; exact bdrewN (by go_grown) _)), k + 1, by omega, by go_num⟩
      case measure => simp [intOf]; omega
    · go_wp2
      go_ret
      exact ⟨rfl, Br⟩
theorem rg_iv (L : List (Int × Int)) : ∀ e ∈ L.map ivCell, ∃ x : Int × Int, e = ivCell x := fun e h => by
  obtain ⟨x, _, rfl⟩ := List.mem_map.1 h
  exact ⟨x, rfl⟩
theorem rs_ex (x : Rs) : ∃ k d lo hi, x = ⟨k, d, lo, hi⟩ := ⟨x.k, x.d, x.lo, x.hi, rfl⟩
/-- a state that a ray passes is a state -/
theorem st_true {ds ss : List Int} {src co si hy : Int} (r : RayOk ds ss src co si hy) {n : Nat} (hn : n ≤ 100) : stB ds ss src co si hy (rwAt ds ss src co si hy n).k (rwAt ds ss src co si hy n).lo (rwAt ds ss src co si hy n).hi = true := by
  have k := kd_ok r n
  have b := rw_bd r hn
  have k0 : 0 ≤ (rwAt ds ss src co si hy n).k := k.k0
  have k1 : (rwAt ds ss src co si hy n).k < ss.length := k.k1
  have kc : canB ss src co hy (rwAt ds ss src co si hy n).k = true := k.hc
  have e := rayE_ok r k0 (by have := r.l3; omega)
  unfold stB crossI isI isV inB
  rw [e, kc]
  simp
  omega
/-- a step of the ray, as StepRay tells it -/
theorem step_rw {ds ss : List Int} {src co si hy : Int} (r : RayOk ds ss src co si hy) {n : Nat} (hn : n < 100) :
    SrIs ds ss src co si hy (rwAt ds ss src co si hy n).k (rwAt ds ss src co si hy n).d (rwAt ds ss src co si hy n).lo (rwAt ds ss src co si hy n).hi 0 (kdEv ds ss src co hy (kdAt ds ss src co si hy n)) (rwAt ds ss src co si hy (n + 1)).k (rwAt ds ss src co si hy (n + 1)).d (rwAt ds ss src co si hy (n + 1)).lo (rwAt ds ss src co si hy (n + 1)).hi := by
  have s := rw_step r hn
  have q := sr_ok (dn := (rwAt ds ss src co si hy n).d) (rayE_zero (k := 0) r) (st_true r (show n ≤ 100 by omega))
  rw [s.e, s.v, s.k', s.d', s.l', s.h'] at q
  exact q
set_option maxRecDepth 100000 in
set_option maxHeartbeats 16000000 in
theorem lawTraces_any (A : Option Addr) (c : Nat) (xs : List Int) (w : World) (h : BytesAt w A c xs) :
    Calls Try.prog 11 #[.slice A xs.length c] w fun e w' => e = .returned (.bool true) ∧ Below w.heap.size w w' := by
  have hn := Nat.le_trans h.1 h.2.1
  have H := Lib.hid h; clear h
  by_cases hbig : (4096 : Int) < xs.length
  · go_enter Try.func11, Try.ntmps11
    go_wp2_with (go_at_call 14; refine (big_any _ _ _ _ hn).mono ?_; rintro e w' ⟨rfl, rfl⟩)
    go_ret
    exact ⟨rfl, Below.refl _ _⟩
  · go_enter Try.func11, Try.ntmps11
    go_wp2_with (go_at_call 14; refine (big_any _ _ _ _ hn).mono ?_; rintro e w' ⟨rfl, rfl⟩)
    refine (drawTraceRay_any A c xs _ H.out).mono ?_
    rintro e w3 ⟨⟨A1, c1, A2, c2, ts, ls, src, co, si, hy, n, rfl, rp⟩, hb3⟩
    have P := Lib.hid rp.at; clear rp
    have HX := Lib.hid (H.out.below hb3 (Nat.le_refl _))
    have B3 := Lib.hid hb3; clear hb3
    by_cases hc : trCo ts ls src co si hy n = 0
    · obtain ⟨r, m, rfl, hm, hr⟩ := trCo_zero hc
      have zE := rayE_zero (k := 0) r
      have eM := (no_limit r m hm).2
      obtain ⟨zk, zd, zl, zh, hz⟩ := rs_ex (rwAt ts ls src co si hy m)
      have eX := (trX_ok hc).trans (eM.trans hz)
      have eL := trL_ok hc
      have lL : (trL ts ls src co si hy m).length = m := by rw [eL, trE_len]
      have lR := rgL_len0 hc
      obtain ⟨EV, hEV⟩ : ∃ x, trL ts ls src co si hy m = x := ⟨_, rfl⟩
      obtain ⟨RG, hRG⟩ : ∃ x, rgL ts ls src co si hy m = x := ⟨_, rfl⟩
      rw [hEV] at lL eL; rw [hRG] at lR
      have TI := Lib.hid (show ∀ w, ProfAt w A1 c1 A2 c2 ts ls → Calls Try.prog 66 #[profV A1 ts.length c1 A2 ls.length c2, .int .i64 src, dirV co si hy, .int .i64 (m : Int)] w fun e w' => (∃ A' c', e = .returned (.tuple #[.slice A' m c', rsV zk zd zl zh, .int .i64 0]) ∧ ResI w' w.heap.size w'.heap.size A' c' EV) ∧ Below w.heap.size w w' from fun w h => by have q := implTraceRay_any A1 A2 c1 c2 ts ls src co si hy m w h; rw [eX, hEV, lL, hc] at q; exact q)
      have TS := Lib.hid (show ∀ w, ProfAt w A1 c1 A2 c2 ts ls → Calls Try.prog 67 #[profV A1 ts.length c1 A2 ls.length c2, .int .i64 src, dirV co si hy, .int .i64 (m : Int)] w fun e w' => (∃ A' c', e = .returned (.tuple #[.slice A' m c', rsV zk zd zl zh, .int .i64 0]) ∧ ResI w' w.heap.size w'.heap.size A' c' EV) ∧ Below w.heap.size w w' from fun w h => by have q := specTraceRay_any A1 A2 c1 c2 ts ls src co si hy m w h; rw [eX, hEV, lL, hc] at q; exact q)
      have RI := Lib.hid (show ∀ w, ProfAt w A1 c1 A2 c2 ts ls → Calls Try.prog 68 #[profV A1 ts.length c1 A2 ls.length c2, .int .i64 src, dirV co si hy, .int .i64 (m : Int)] w fun e w' => (∃ A' c', e = .returned (.tuple #[.slice A' m c', .int .i64 0]) ∧ ResK w' w.heap.size w'.heap.size A' c' 2 (RG.map ivCell)) ∧ Below w.heap.size w w' from fun w h => by have q := implRangesOf_any A1 A2 c1 c2 ts ls src co si hy m w h; rw [hRG, lR, hc] at q; exact q)
      have RS := Lib.hid (show ∀ w, ProfAt w A1 c1 A2 c2 ts ls → Calls Try.prog 69 #[profV A1 ts.length c1 A2 ls.length c2, .int .i64 src, dirV co si hy, .int .i64 (m : Int)] w fun e w' => (∃ A' c', e = .returned (.tuple #[.slice A' m c', .int .i64 0]) ∧ ResK w' w.heap.size w'.heap.size A' c' 2 (RG.map ivCell)) ∧ Below w.heap.size w w' from fun w h => by have q := specRangesOf_any A1 A2 c1 c2 ts ls src co si hy m w h; rw [hRG, lR, hc] at q; exact q)
      have e1_ : fsK ts ls src co si hy = src := by unfold fsK; rw [if_pos zE]
      have e2_ : fsD ts ls src co si hy = decide (0 < si) := by unfold fsD; rw [zE]; simp
      have FI := Lib.hid (show ∀ w, ProfAt w A1 c1 A2 c2 ts ls → Calls Try.prog 49 #[profV A1 ts.length c1 A2 ls.length c2, .int .i64 src, dirV co si hy] w fun e w' => e = .returned (.tuple #[rsV src (decide (0 < si)) 0 0, .int .i64 0]) ∧ Below w.heap.size w w' from fun w h => by have q := implFirstState_any A1 A2 c1 c2 ts ls src co si hy w h; rw [e1_, e2_, zE] at q; exact q)
      clear e1_ e2_
      have HR := Lib.hid r; have HZ := Lib.hid hz; have HE := Lib.hid eL; have HRG := Lib.hid hRG; have HC := Lib.hid hc; have LL := Lib.hid lL; have LR := Lib.hid lR
      clear r hr hz eL eX eM hEV hRG hc lL lR zE
      go_wp2_with fail
      refine (TI.out _ (P.out.below (B := w3.heap.size) (by first | exact Below.refl _ _ | (go_grown; done) | exact bdrewN (by go_grown) _) (Nat.le_refl _))).mono ?_
      rintro e w4 ⟨⟨Ae, ce, rfl, q4_⟩, hb4⟩
      have P := Lib.hid (((P.out).below (B := w3.heap.size) (by first | exact Below.refl _ _ | (go_grown; done) | exact bdrewN (by go_grown) _) (Nat.le_refl _)).below hb4 (Nat.le_refl _))
      have E4 := Lib.hid (q4_.at)
      obtain ⟨B4, hz4, q4, s4, t4, x4, y4, z4⟩ := bkeep (w := w3) [w3.heap.size, w3.heap.size + 1] (by first | (simp; done) | (simp; omega)) (by first | (go_grown; done) | exact bdrewN (by go_grown) _) hb4; (try simp at hz4); clear hb4
      clear q4_
      go_wp2_with fail
      refine (TS.out _ (P.out.below (B := w4.heap.size) (by first | exact Below.refl _ _ | (go_grown; done) | exact bdrewN (by go_grown) _) (Nat.le_refl _))).mono ?_
      rintro e w5 ⟨⟨Ag, cg, rfl, q5_⟩, hb5⟩
      have P := Lib.hid (((P.out).below (B := w4.heap.size) (by first | exact Below.refl _ _ | (go_grown; done) | exact bdrewN (by go_grown) _) (Nat.le_refl _)).below hb5 (Nat.le_refl _))
      have E4 := Lib.hid (((E4.out).below (B := w4.heap.size) (by first | exact Below.refl _ _ | (go_grown; done) | exact bdrewN (by go_grown) _) (Nat.le_refl _)).below hb5 (Nat.le_refl _))
      have E5 := Lib.hid (q5_.at)
      obtain ⟨B5, hz5, q5, s5, t5, x5, y5, z5⟩ := bkeep (w := w3) [w3.heap.size, w3.heap.size + 1, w4.heap.size] (by first | (simp; done) | (simp; omega)) (by first | (go_grown; done) | exact bdrewN (by go_grown) _) hb5; (try simp at hz5); clear hb5
      clear q5_
      go_wp2_with fail
      refine (RI.out _ (P.out.below (B := w5.heap.size) (by first | exact Below.refl _ _ | (go_grown; done) | exact bdrewN (by go_grown) _) (Nat.le_refl _))).mono ?_
      rintro e w6 ⟨⟨Ar, cr, rfl, q6_⟩, hb6⟩
      have P := Lib.hid (((P.out).below (B := w5.heap.size) (by first | exact Below.refl _ _ | (go_grown; done) | exact bdrewN (by go_grown) _) (Nat.le_refl _)).below hb6 (Nat.le_refl _))
      have E4 := Lib.hid (((E4.out).below (B := w5.heap.size) (by first | exact Below.refl _ _ | (go_grown; done) | exact bdrewN (by go_grown) _) (Nat.le_refl _)).below hb6 (Nat.le_refl _))
      have E5 := Lib.hid (((E5.out).below (B := w5.heap.size) (by first | exact Below.refl _ _ | (go_grown; done) | exact bdrewN (by go_grown) _) (Nat.le_refl _)).below hb6 (Nat.le_refl _))
      have K6 := Lib.hid (q6_.at)
      obtain ⟨B6, hz6, q6, s6, t6, x6, y6, z6⟩ := bkeep (w := w3) [w3.heap.size, w3.heap.size + 1, w4.heap.size, w5.heap.size] (by first | (simp; done) | (simp; omega)) (by first | (go_grown; done) | exact bdrewN (by go_grown) _) hb6; (try simp at hz6); clear hb6
      clear q6_
      go_wp2_with fail
      refine (RS.out _ (P.out.below (B := w6.heap.size) (by first | exact Below.refl _ _ | (go_grown; done) | exact bdrewN (by go_grown) _) (Nat.le_refl _))).mono ?_
      rintro e w7 ⟨⟨As, cs, rfl, q7_⟩, hb7⟩
      have P := Lib.hid (((P.out).below (B := w6.heap.size) (by first | exact Below.refl _ _ | (go_grown; done) | exact bdrewN (by go_grown) _) (Nat.le_refl _)).below hb7 (Nat.le_refl _))
      have E4 := Lib.hid (((E4.out).below (B := w6.heap.size) (by first | exact Below.refl _ _ | (go_grown; done) | exact bdrewN (by go_grown) _) (Nat.le_refl _)).below hb7 (Nat.le_refl _))
      have E5 := Lib.hid (((E5.out).below (B := w6.heap.size) (by first | exact Below.refl _ _ | (go_grown; done) | exact bdrewN (by go_grown) _) (Nat.le_refl _)).below hb7 (Nat.le_refl _))
      have K6 := Lib.hid (((K6.out).below (B := w6.heap.size) (by first | exact Below.refl _ _ | (go_grown; done) | exact bdrewN (by go_grown) _) (Nat.le_refl _)).below hb7 (Nat.le_refl _))
      have K7 := Lib.hid (q7_.at)
      obtain ⟨B7, hz7, q7, s7, t7, x7, y7, z7⟩ := bkeep (w := w3) [w3.heap.size, w3.heap.size + 1, w4.heap.size, w5.heap.size] (by first | (simp; done) | (simp; omega)) (by first | (go_grown; done) | exact bdrewN (by go_grown) _) hb7; (try simp at hz7); clear hb7
      clear q7_
      go_upto_region 8 with fail
      refine genS (S := fun w' => Below w3.heap.size w3 w' ∧ w3.heap.size < w'.heap.size ∧ w3.heap.size + 1 < w'.heap.size ∧ w4.heap.size < w'.heap.size ∧ w5.heap.size < w'.heap.size ∧ w'.cell? ⟨w3.heap.size, 0, none⟩ = some (.slice A1 (List.length ts) c1) ∧ w'.cell? ⟨w3.heap.size, 1, none⟩ = some (.slice A2 (List.length ls) c2) ∧ w'.cell? ⟨w3.heap.size + 1, 0, none⟩ = some (.int .i64 co) ∧ w'.cell? ⟨w3.heap.size + 1, 1, none⟩ = some (.int .i64 si) ∧ w'.cell? ⟨w3.heap.size + 1, 2, none⟩ = some (.int .i64 hy) ∧ w'.cell? ⟨w4.heap.size, 0, none⟩ = some (.int .i64 zk) ∧ w'.cell? ⟨w4.heap.size, 1, none⟩ = some (.bool zd) ∧ w'.cell? ⟨w4.heap.size, 2, none⟩ = some (.int .i64 zl) ∧ w'.cell? ⟨w4.heap.size, 3, none⟩ = some (.int .i64 zh) ∧ w'.cell? ⟨w5.heap.size, 0, none⟩ = some (.int .i64 zk) ∧ w'.cell? ⟨w5.heap.size, 1, none⟩ = some (.bool zd) ∧ w'.cell? ⟨w5.heap.size, 2, none⟩ = some (.int .i64 zl) ∧ w'.cell? ⟨w5.heap.size, 3, none⟩ = some (.int .i64 zh) ∧ ProfAt w' A1 c1 A2 c2 ts ls ∧ IntsAt w' Ae ce (EV) ∧ IntsAt w' Ag cg (EV) ∧ KAt w' Ar cr 2 (RG.map ivCell) ∧ KAt w' As cs 2 (RG.map ivCell)) ⟨(by first | exact B7 | exact bdrewN B7 _ | exact bdrewN (bdrewN B7 _) _ | (go_grown; done) | (go_grown <;> exact bdrewN B7 _)), by first | omega | (simp; done) | (simp; omega), by first | omega | (simp; done) | (simp; omega), by first | omega | (simp; done) | (simp; omega), by first | omega | (simp; done) | (simp; omega), by simp [*, go_sem], by simp [*, go_sem], by simp [*, go_sem], by simp [*, go_sem], by simp [*, go_sem], by simp [*, go_sem], by simp [*, go_sem], by simp [*, go_sem], by simp [*, go_sem], by simp [*, go_sem], by simp [*, go_sem], by simp [*, go_sem], by simp [*, go_sem], (P.out).below (B := w7.heap.size) (by first | exact Below.refl _ _ | exact bdrewN (Below.refl _ _) _ | exact bdrewN (bdrewN (Below.refl _ _) _) _ | (go_grown; done) | exact bdrewN (by go_grown) _) (Nat.le_refl _), (E4.out).below (B := w7.heap.size) (by first | exact Below.refl _ _ | exact bdrewN (Below.refl _ _) _ | exact bdrewN (bdrewN (Below.refl _ _) _) _ | (go_grown; done) | exact bdrewN (by go_grown) _) (Nat.le_refl _), (E5.out).below (B := w7.heap.size) (by first | exact Below.refl _ _ | exact bdrewN (Below.refl _ _) _ | exact bdrewN (bdrewN (Below.refl _ _) _) _ | (go_grown; done) | exact bdrewN (by go_grown) _) (Nat.le_refl _), (K6.out).below (B := w7.heap.size) (by first | exact Below.refl _ _ | exact bdrewN (Below.refl _ _) _ | exact bdrewN (bdrewN (Below.refl _ _) _) _ | (go_grown; done) | exact bdrewN (by go_grown) _) (Nat.le_refl _), (K7.out).below (B := w7.heap.size) (by first | exact Below.refl _ _ | exact bdrewN (Below.refl _ _) _ | exact bdrewN (bdrewN (Below.refl _ _) _) _ | (go_grown; done) | exact bdrewN (by go_grown) _) (Nat.le_refl _)⟩ ?_
      clear q4 s4 t4 x4 y4 z4 hz4 q5 s5 t5 x5 y5 z5 hz5 q6 s6 t6 x6 y6 z6 hz6 q7 s7 t7 x7 y7 z7 hz7
      rintro w8 ⟨B8, lt8_0, lt8_1, lt8_2, lt8_3, c8_0, c8_1, c8_2, c8_3, c8_4, c8_5, c8_6, c8_7, c8_8, c8_9, c8_10, c8_11, c8_12, rr_P, rr_E4, rr_E5, rr_K6, rr_K7⟩
      have P := Lib.hid rr_P; clear rr_P
      have E4 := Lib.hid rr_E4; clear rr_E4
      have E5 := Lib.hid rr_E5; clear rr_E5
      have K6 := Lib.hid rr_K6; clear rr_K6
      have K7 := Lib.hid rr_K7; clear rr_K7
      have LIN := Lib.hid (show ∀ w, IntsAt w Ae ce (EV) → IntsAt w Ag cg (EV) → Calls Try.prog 70 #[.slice Ae m ce, .slice Ag m cg] w fun e w' => e = .returned (.bool true) ∧ Below w.heap.size w w' from fun w h1 h2 => by have q := likeInts_same Ae Ag ce cg (EV) w h1 h2; rw [LL.out] at q; exact q)
      go_upto_region 12 with (first
        | (go_at_call 70; refine (LIN.out _ (E4.out.below (B := w8.heap.size) (by first | exact Below.refl _ _ | (go_grown; done) | exact bdrewN (by go_grown) _) (Nat.le_refl _)) (E5.out.below (B := w8.heap.size) (by first | exact Below.refl _ _ | (go_grown; done) | exact bdrewN (by go_grown) _) (Nat.le_refl _))).mono ?_; rintro e w9 ⟨rfl, hb9⟩; obtain ⟨B9, hz9, q9, s9, t9, x9, y9, z9⟩ := bkeep (w := w8) [w3.heap.size, w3.heap.size + 1, w4.heap.size, w5.heap.size] (by first | (simp; done) | (simp; omega)) (by first | (go_grown; done) | exact bdrewN (by go_grown) _) hb9; (try simp at hz9); clear hb9)
        | (go_at_call 71; refine (likeRanges9_same Ar As cr cs _ (RG.map ivCell) _ (K6.out.below (B := w8.heap.size) (by first | exact Below.refl _ _ | (go_grown; done) | exact bdrewN (by go_grown) _) (Nat.le_refl _)) (K7.out.below (B := w8.heap.size) (by first | exact Below.refl _ _ | (go_grown; done) | exact bdrewN (by go_grown) _) (Nat.le_refl _)) (by first | exact (List.length_map _).trans LR.out | exact List.length_map _) (rg_iv _)).mono ?_; rintro e w10 ⟨rfl, hb10⟩; obtain ⟨B10, hz10, q10, s10, t10, x10, y10, z10⟩ := bkeep (w := w8) [w3.heap.size, w3.heap.size + 1, w4.heap.size, w5.heap.size] (by first | (simp; done) | (simp; omega)) (by first | (go_grown; done) | exact bdrewN (by go_grown) _) hb10; (try simp at hz10); clear hb10))
      have hz8 := B8.size
      have P := Lib.hid (P.out.below (B := w8.heap.size) B10 (Nat.le_refl _))
      have E5 := Lib.hid (E5.out.below (B := w8.heap.size) B10 (Nat.le_refl _))
      have K6 := Lib.hid (K6.out.below (B := w8.heap.size) B10 (Nat.le_refl _))
      have B10 := B8.trans (B10.mono B8.size)
      refine genS (S := fun w' => Below w3.heap.size w3 w' ∧ w3.heap.size < w'.heap.size ∧ w3.heap.size + 1 < w'.heap.size ∧ w4.heap.size < w'.heap.size ∧ w'.cell? ⟨w3.heap.size, 0, none⟩ = some (.slice A1 (List.length ts) c1) ∧ w'.cell? ⟨w3.heap.size, 1, none⟩ = some (.slice A2 (List.length ls) c2) ∧ w'.cell? ⟨w3.heap.size + 1, 0, none⟩ = some (.int .i64 co) ∧ w'.cell? ⟨w3.heap.size + 1, 1, none⟩ = some (.int .i64 si) ∧ w'.cell? ⟨w3.heap.size + 1, 2, none⟩ = some (.int .i64 hy) ∧ w'.cell? ⟨w4.heap.size, 0, none⟩ = some (.int .i64 zk) ∧ w'.cell? ⟨w4.heap.size, 1, none⟩ = some (.bool zd) ∧ w'.cell? ⟨w4.heap.size, 2, none⟩ = some (.int .i64 zl) ∧ w'.cell? ⟨w4.heap.size, 3, none⟩ = some (.int .i64 zh) ∧ ProfAt w' A1 c1 A2 c2 ts ls ∧ IntsAt w' Ag cg (EV) ∧ KAt w' Ar cr 2 (RG.map ivCell)) ⟨(by first | exact B10 | exact bdrewN B10 _ | exact bdrewN (bdrewN B10 _) _ | (go_grown; done) | (go_grown <;> exact bdrewN B10 _)), by first | omega | (simp; done) | (simp; omega), by first | omega | (simp; done) | (simp; omega), by first | omega | (simp; done) | (simp; omega), by simp [*, go_sem], by simp [*, go_sem], by simp [*, go_sem], by simp [*, go_sem], by simp [*, go_sem], by simp [*, go_sem], by simp [*, go_sem], by simp [*, go_sem], by simp [*, go_sem], (P.out).below (B := w10.heap.size) (by first | exact Below.refl _ _ | exact bdrewN (Below.refl _ _) _ | exact bdrewN (bdrewN (Below.refl _ _) _) _ | (go_grown; done) | exact bdrewN (by go_grown) _) (Nat.le_refl _), (E5.out).below (B := w10.heap.size) (by first | exact Below.refl _ _ | exact bdrewN (Below.refl _ _) _ | exact bdrewN (bdrewN (Below.refl _ _) _) _ | (go_grown; done) | exact bdrewN (by go_grown) _) (Nat.le_refl _), (K6.out).below (B := w10.heap.size) (by first | exact Below.refl _ _ | exact bdrewN (Below.refl _ _) _ | exact bdrewN (bdrewN (Below.refl _ _) _) _ | (go_grown; done) | exact bdrewN (by go_grown) _) (Nat.le_refl _)⟩ ?_
      clear q9 s9 t9 x9 y9 z9 hz9 q10 s10 t10 x10 y10 z10 hz10 c8_0 c8_1 c8_2 c8_3 c8_4 c8_5 c8_6 c8_7 c8_8 c8_9 c8_10 c8_11 c8_12
      rintro w11 ⟨B11, lt11_0, lt11_1, lt11_2, c11_0, c11_1, c11_2, c11_3, c11_4, c11_5, c11_6, c11_7, c11_8, rr_P, rr_E5, rr_K6⟩
      have P := Lib.hid rr_P; clear rr_P
      have E5 := Lib.hid rr_E5; clear rr_E5
      have K6 := Lib.hid rr_K6; clear rr_K6
      have B11_ := Lib.hid B11
      go_wp2_with fail
      refine (FI.out _ (P.out.below (B := w11.heap.size) (by first | exact Below.refl _ _ | (go_grown; done) | exact bdrewN (by go_grown) _) (Nat.le_refl _))).mono ?_
      rintro e w12 ⟨rfl, hb12⟩
      have P := Lib.hid (P.out.below (hb12) (Nat.le_refl _))
      have E5 := Lib.hid (E5.out.below (hb12) (Nat.le_refl _))
      have K6 := Lib.hid (K6.out.below (hb12) (Nat.le_refl _))
      obtain ⟨B12, hz12, q12, s12, t12, x12, y12, z12⟩ := bkeep (w := w11) [w3.heap.size, w3.heap.size + 1, w4.heap.size] (by first | (simp; done) | (simp; omega)) (by first | (go_grown; done) | exact bdrewN (by go_grown) _) hb12; (try simp at hz12); clear hb12
      go_upto_region 15 with fail
      have B12 := B11.trans (B12.mono B11.size)
      have P12 := P; have E12 := E5; have K12 := K6
      have s12_ : w11.heap.size ≤ w12.heap.size := hz12
      refine genS (S := fun w' => Below w12.heap.size w12 w' ∧ w3.heap.size < w'.heap.size ∧ w3.heap.size + 1 < w'.heap.size ∧ w4.heap.size < w'.heap.size ∧ w12.heap.size < w'.heap.size ∧ w'.cell? ⟨w3.heap.size, 0, none⟩ = some (.slice A1 (List.length ts) c1) ∧ w'.cell? ⟨w3.heap.size, 1, none⟩ = some (.slice A2 (List.length ls) c2) ∧ w'.cell? ⟨w3.heap.size + 1, 0, none⟩ = some (.int .i64 co) ∧ w'.cell? ⟨w3.heap.size + 1, 1, none⟩ = some (.int .i64 si) ∧ w'.cell? ⟨w3.heap.size + 1, 2, none⟩ = some (.int .i64 hy) ∧ w'.cell? ⟨w4.heap.size, 0, none⟩ = some (.int .i64 zk) ∧ w'.cell? ⟨w4.heap.size, 1, none⟩ = some (.bool zd) ∧ w'.cell? ⟨w4.heap.size, 2, none⟩ = some (.int .i64 zl) ∧ w'.cell? ⟨w4.heap.size, 3, none⟩ = some (.int .i64 zh) ∧ w'.cell? ⟨w12.heap.size, 0, none⟩ = some (.int .i64 src) ∧ w'.cell? ⟨w12.heap.size, 1, none⟩ = some (.bool (decide (0 < si))) ∧ w'.cell? ⟨w12.heap.size, 2, none⟩ = some (.int .i64 0) ∧ w'.cell? ⟨w12.heap.size, 3, none⟩ = some (.int .i64 0) ∧ (∀ o, w'.frozen? ⟨w12.heap.size, o, none⟩ = false)) ⟨by first | (go_grown; done) | exact bdrewN (by go_grown) _, by first | omega | (simp; done) | (simp; omega), by first | omega | (simp; done) | (simp; omega), by first | omega | (simp; done) | (simp; omega), by first | omega | (simp; done) | (simp; omega), by simp [*, go_sem], by simp [*, go_sem], by simp [*, go_sem], by simp [*, go_sem], by simp [*, go_sem], by simp [*, go_sem], by simp [*, go_sem], by simp [*, go_sem], by simp [*, go_sem], by simp [*, go_sem], by simp [*, go_sem], by simp [*, go_sem], by simp [*, go_sem], fun o => by simp [*, go_sem]⟩ ?_
      clear q12 s12 t12 x12 y12 z12 hz12 c11_0 c11_1 c11_2 c11_3 c11_4 c11_5 c11_6 c11_7 c11_8
      rintro w13 ⟨hb13, lt13_0, lt13_1, lt13_2, lt13_3, c13_0, c13_1, c13_2, c13_3, c13_4, c13_5, c13_6, c13_7, c13_8, c13_9, c13_10, c13_11, c13_12, fz13⟩
      have P := Lib.hid (P.out.below hb13 (Nat.le_refl _))
      have E5 := Lib.hid (E5.out.below hb13 (Nat.le_refl _))
      have K6 := Lib.hid (K6.out.below hb13 (Nat.le_refl _))
      have B13 := Lib.hid (B12.trans (hb13.mono B12.size))
      go_wp2
      go_loopw [19] (fun i wr => ∃ (k : Nat) (xk : Int) (xd : Bool) (xl xh : Int), k ≤ m ∧ i = .int .i64 k ∧ Hid (rwAt ts ls src co si hy k = ⟨xk, xd, xl, xh⟩) ∧ Below w12.heap.size w13 wr ∧ w12.heap.size < wr.heap.size ∧ wr.cell? ⟨w12.heap.size, 0, none⟩ = some (.int .i64 xk) ∧ wr.cell? ⟨w12.heap.size, 1, none⟩ = some (.bool xd) ∧ wr.cell? ⟨w12.heap.size, 2, none⟩ = some (.int .i64 xl) ∧ wr.cell? ⟨w12.heap.size, 3, none⟩ = some (.int .i64 xh) ∧ (∀ o, wr.frozen? ⟨w12.heap.size, o, none⟩ = false)) (fun i _ => m - (intOf i).toNat)
      case atStart => exact ⟨0, _, _, _, _, by omega, rfl, Lib.hid rfl, Below.refl _ _, lt13_3, c13_9, c13_10, c13_11, c13_12, fz13⟩
      case round =>
        obtain ⟨k, xk, xd, xl, xh, hk, rfl, hx, Br, ln, n0, n1, n2, n3, fn⟩ := hrel
        have BR := Lib.hid Br; have sr : w13.heap.size ≤ wr.heap.size := Br.size
        have r0 := (bAt Br (b := w3.heap.size) (o := 0) (by omega)).trans c13_0
        have r1 := (bAt Br (b := w3.heap.size) (o := 1) (by omega)).trans c13_1
        have r2 := (bAt Br (b := w3.heap.size + 1) (o := 0) (by omega)).trans c13_2
        have r3 := (bAt Br (b := w3.heap.size + 1) (o := 1) (by omega)).trans c13_3
        have r4 := (bAt Br (b := w3.heap.size + 1) (o := 2) (by omega)).trans c13_4
        have r5 := (bAt Br (b := w4.heap.size) (o := 0) (by omega)).trans c13_5
        have r6 := (bAt Br (b := w4.heap.size) (o := 1) (by omega)).trans c13_6
        have r7 := (bAt Br (b := w4.heap.size) (o := 2) (by omega)).trans c13_7
        have r8 := (bAt Br (b := w4.heap.size) (o := 3) (by omega)).trans c13_8
        have PR := Lib.hid (show ProfAt wr A1 c1 A2 c2 ts ls from P12.out.below (hb13.trans Br) (Nat.le_refl _)); have ER := Lib.hid (show IntsAt wr Ag cg EV from E12.out.below (hb13.trans Br) (Nat.le_refl _)); have KR := Lib.hid (show KAt wr Ar cr 2 (RG.map ivCell) from K12.out.below (hb13.trans Br) (Nat.le_refl _))
        by_cases hlt : k < m
        · have SR := step_rw HR.out (show k < 100 by omega)
          have st1 := st_true HR.out (show k + 1 ≤ 100 by omega)
          have cst := kd_cost HR.out (kd_ok HR.out k)
          have u1 : (rwAt ts ls src co si hy (k + 1)).lo = (rwAt ts ls src co si hy k).lo + kdLo ts ls src co hy (kdAt ts ls src co si hy k) := rfl
          have u2 : (rwAt ts ls src co si hy (k + 1)).hi = (rwAt ts ls src co si hy k).hi + kdHi ts ls src co hy (kdAt ts ls src co si hy k) := rfl
          obtain ⟨yk, yd, yl, yh, hy2⟩ := rs_ex (rwAt ts ls src co si hy (k + 1))
          rw [hx.out] at SR u1 u2; rw [hy2] at SR st1 u1 u2
          dsimp only at SR st1 u1 u2
          have uv1 : xl ≤ yl := by omega
          have uv2 : xh ≤ yh := by omega
          clear u1 u2 cst
          obtain ⟨be, oe, x, rfl, hbe, hxe, cE⟩ := ER.out.at_ (k := k) (by have := LL.out; omega)
          have ex : x = kdEv ts ls src co hy (kdAt ts ls src co si hy k) := by rw [HE.out, trE_get _ _ _ _ _ _ _ _ hlt, (no_step HR.out (show k < 100 by omega)).1] at hxe; simpa using hxe.symm
          obtain ⟨v, hv⟩ : ∃ v, kdEv ts ls src co hy (kdAt ts ls src co si hy k) = v := ⟨_, rfl⟩
          rw [hv] at SR ex
          subst ex
          obtain ⟨bq, oq, e, rfl, hbq, heq, hcq⟩ := KR.out.at_ (i := k) (by rw [List.length_map, LR.out]; exact hlt)
          have eq2 : e = ivCell (yl, yh) := by
            have q := rgL_ok HC.out
            rw [HRG.out] at q
            rw [q, rgTo, List.getElem?_map, trS_get _ _ _ _ _ _ _ _ hlt, (no_limit HR.out (k + 1) (by omega)).2, hy2] at heq
            simpa [rgCell, ivCell] using heq.symm
          subst eq2
          have d0 := hcq 0 _ rfl; have d1 := hcq 1 _ rfl
          rw [Nat.add_zero] at d0
          dsimp only at d0 d1
          have SP := Lib.hid (show ∀ w, ProfAt w A1 c1 A2 c2 ts ls → Calls Try.prog 46 #[profV A1 ts.length c1 A2 ls.length c2, .int .i64 src, dirV co si hy, rsV xk xd xl xh] w fun e w' => e = .returned (.tuple #[rsV yk yd yl yh, .int .i64 x, .int .i64 0]) ∧ Below w.heap.size w w' from fun w h => by have q := implStepRay_any A1 A2 c1 c2 ts ls src co si hy xk xd xl xh w h; rw [SR.e, SR.v, SR.k', SR.d', SR.l', SR.h'] at q; exact q)
          have IS := Lib.hid (show ∀ w, ProfAt w A1 c1 A2 c2 ts ls → Calls Try.prog 51 #[profV A1 ts.length c1 A2 ls.length c2, .int .i64 src, dirV co si hy, rsV yk yd yl yh] w fun e w' => e = .returned (.bool true) ∧ Below w.heap.size w w' from fun w h => by have q := implIsRayState_any A1 A2 c1 c2 ts ls src co si hy yk yd yl yh w h; rw [st1] at q; exact q)
          have HY := Lib.hid hy2
          clear SR st1 hy2 hxe heq hcq hv Br
          have g1 : (k : Int) < m := by omega
          have g2 : (0 : Int) ≤ k := by omega
          have lw0 : w3.heap.size < wr.heap.size := by omega
          have lw1 : w3.heap.size + 1 < wr.heap.size := by omega
          have lw2 : w4.heap.size < wr.heap.size := by omega
          go_upto_region 19 with (go_at_call 46; refine (SP.out _ (PR.out.below (B := wr.heap.size) (by first | exact Below.refl _ _ | (go_grown; done) | exact bdrewN (by go_grown) _) (Nat.le_refl _))).mono ?_; rintro e w14 ⟨rfl, hb14⟩; obtain ⟨B14, hz14, q14, s14, t14, x14, y14, z14⟩ := bkeep (w := wr) [w3.heap.size, w3.heap.size + 1, w4.heap.size, w12.heap.size] (by first | (simp; done) | (simp; omega)) (by first | (go_grown; done) | exact bdrewN (by go_grown) _) hb14; (try simp at hz14); clear hb14)
          have nN : (w12.heap.size = w14.heap.size) = False := eq_false (by omega)
          have nM : (w14.heap.size = w12.heap.size) = False := eq_false (by omega)
          have be14 : be < w14.heap.size := by omega
          have bq14 : bq < w14.heap.size := by omega
          refine genS (S := fun w' => Below wr.heap.size wr w' ∧ w3.heap.size < w'.heap.size ∧ w3.heap.size + 1 < w'.heap.size ∧ w4.heap.size < w'.heap.size ∧ w12.heap.size < w'.heap.size ∧ w14.heap.size < w'.heap.size ∧ w'.cell? ⟨w3.heap.size, 0, none⟩ = some (.slice A1 (List.length ts) c1) ∧ w'.cell? ⟨w3.heap.size, 1, none⟩ = some (.slice A2 (List.length ls) c2) ∧ w'.cell? ⟨w3.heap.size + 1, 0, none⟩ = some (.int .i64 co) ∧ w'.cell? ⟨w3.heap.size + 1, 1, none⟩ = some (.int .i64 si) ∧ w'.cell? ⟨w3.heap.size + 1, 2, none⟩ = some (.int .i64 hy) ∧ w'.cell? ⟨w12.heap.size, 0, none⟩ = some (.int .i64 xk) ∧ w'.cell? ⟨w12.heap.size, 1, none⟩ = some (.bool xd) ∧ w'.cell? ⟨w12.heap.size, 2, none⟩ = some (.int .i64 xl) ∧ w'.cell? ⟨w12.heap.size, 3, none⟩ = some (.int .i64 xh) ∧ w'.cell? ⟨w14.heap.size, 0, none⟩ = some (.int .i64 yk) ∧ w'.cell? ⟨w14.heap.size, 1, none⟩ = some (.bool yd) ∧ w'.cell? ⟨w14.heap.size, 2, none⟩ = some (.int .i64 yl) ∧ w'.cell? ⟨w14.heap.size, 3, none⟩ = some (.int .i64 yh) ∧ (∀ o, w'.frozen? ⟨w12.heap.size, o, none⟩ = false) ∧ w'.cell? ⟨be, oe + k, none⟩ = some (.int .i64 x) ∧ w'.cell? ⟨bq, oq + k * 2, none⟩ = some (.int .i64 yl) ∧ w'.cell? ⟨bq, oq + k * 2 + 1, none⟩ = some (.int .i64 yh)) ⟨by first | (go_grown; done) | exact bdrewN (by go_grown) _, by first | omega | (simp; done) | (simp; omega), by first | omega | (simp; done) | (simp; omega), by first | omega | (simp; done) | (simp; omega), by first | omega | (simp; done) | (simp; omega), by first | omega | (simp; done) | (simp; omega), by simp [*, go_sem], by simp [*, go_sem], by simp [*, go_sem], by simp [*, go_sem], by simp [*, go_sem], by simp [*, go_sem], by simp [*, go_sem], by simp [*, go_sem], by simp [*, go_sem], by simp [*, go_sem], by simp [*, go_sem], by simp [*, go_sem], by simp [*, go_sem], fun o => by simp [*, go_sem], by simp [*, go_sem], by simp [*, go_sem], by simp [*, go_sem]⟩ ?_
          clear q14 s14 t14 x14 y14 z14 hz14 n0 n1 n2 n3 fn d0 d1 cE r0 r1 r2 r3 r4 r5 r6 r7 r8
          rintro w15 ⟨hb15, lt15_0, lt15_1, lt15_2, lt15_3, lt15_4, c15_0, c15_1, c15_2, c15_3, c15_4, c15_5, c15_6, c15_7, c15_8, c15_9, c15_10, c15_11, c15_12, fz15, cE, d0, d1⟩
          have PS := Lib.hid (PR.out.below hb15 (Nat.le_refl _))
          have B15 := Lib.hid (BR.out.trans (hb15.mono (show w12.heap.size ≤ wr.heap.size by omega)))
          have be15 : be < w15.heap.size := by omega
          have bq15 : bq < w15.heap.size := by omega
          have uv3 : ¬ yl < xl := by omega
          have uv4 : ¬ yh < xh := by omega
          go_region_held3 (fun w' => w'.cell? ⟨w3.heap.size, 0, none⟩ = some (.slice A1 (List.length ts) c1) ∧ w'.cell? ⟨w3.heap.size, 1, none⟩ = some (.slice A2 (List.length ls) c2) ∧ w'.cell? ⟨w3.heap.size + 1, 0, none⟩ = some (.int .i64 co) ∧ w'.cell? ⟨w3.heap.size + 1, 1, none⟩ = some (.int .i64 si) ∧ w'.cell? ⟨w3.heap.size + 1, 2, none⟩ = some (.int .i64 hy) ∧ w'.cell? ⟨w12.heap.size, 0, none⟩ = some (.int .i64 xk) ∧ w'.cell? ⟨w12.heap.size, 1, none⟩ = some (.bool xd) ∧ w'.cell? ⟨w12.heap.size, 2, none⟩ = some (.int .i64 xl) ∧ w'.cell? ⟨w12.heap.size, 3, none⟩ = some (.int .i64 xh) ∧ w'.cell? ⟨w14.heap.size, 0, none⟩ = some (.int .i64 yk) ∧ w'.cell? ⟨w14.heap.size, 1, none⟩ = some (.bool yd) ∧ w'.cell? ⟨w14.heap.size, 2, none⟩ = some (.int .i64 yl) ∧ w'.cell? ⟨w14.heap.size, 3, none⟩ = some (.int .i64 yh) ∧ w'.cell? ⟨be, oe + k, none⟩ = some (.int .i64 x) ∧ w'.cell? ⟨bq, oq + k * 2, none⟩ = some (.int .i64 yl) ∧ w'.cell? ⟨bq, oq + k * 2 + 1, none⟩ = some (.int .i64 yh)) (first | (go_keep; done) | (simp [*, go_sem]; done))
            (first
              | (go_at_call 51; refine (IS.out _ (PS.out.below (B := w15.heap.size) (by first | exact Below.refl _ _ | (go_grown; done) | exact bdrewN (by go_grown) _) (Nat.le_refl _))).mono ?_; rintro e w16 ⟨rfl, hb16⟩; obtain ⟨B16, hz16, q16, s16, t16, x16, y16, z16⟩ := bkeep (w := w15) [w3.heap.size, w3.heap.size + 1, w4.heap.size, w12.heap.size, w14.heap.size] (by first | (simp; done) | (simp; omega)) (by first | (go_grown; done) | exact bdrewN (by go_grown) _) hb16; (try simp at hz16); clear hb16))
          have BN := Lib.hid (B15.out.trans (B16.mono (show w12.heap.size ≤ w15.heap.size by omega)))
          go_wp2
          go_roundw
          case rel => exact ⟨k + 1, yk, yd, yl, yh, by omega, by go_num, Lib.hid HY.out, (by have hb_ := BN.out; first | exact hb_ | (go_grown; done) | exact bdrewN (by go_grown) _), by first | omega | (simp; done) | (simp; omega), by simp [*, go_sem], by simp [*, go_sem], by simp [*, go_sem], by simp [*, go_sem], fun o => by simp [*, go_sem]⟩
          case measure => simp [intOf]; omega
        · obtain rfl : k = m := by omega
          have hf := HZ.out; rw [hx.out] at hf
          simp only [Rs.mk.injEq] at hf
          obtain ⟨rfl, rfl, rfl, rfl⟩ := hf
          go_wp2
          go_ret
          exact ⟨ret_bool (by first | (simp; done) | (simp; omega)), B3.out.trans ((B13.out.trans (BR.out.mono (by omega))).mono B3.out.size)⟩
    · have hc2 : (trCo ts ls src co si hy n != 0) = true := by simpa using hc
      go_wp2_with fail
      refine (implTraceRay_any _ _ _ _ _ _ _ _ _ _ _ _ (P.out.below (B := w3.heap.size) (by first | exact Below.refl _ _ | (go_grown; done) | exact bdrewN (by go_grown) _) (Nat.le_refl _))).mono ?_
      rintro e w4 ⟨⟨Ae, ce, rfl, q4_⟩, hb4⟩
      have P := Lib.hid (((P.out).below (B := w3.heap.size) (by first | exact Below.refl _ _ | (go_grown; done) | exact bdrewN (by go_grown) _) (Nat.le_refl _)).below hb4 (Nat.le_refl _))
      have E4 := Lib.hid (q4_.at)
      obtain ⟨B4, hz4, q4, s4, t4, x4, y4, z4⟩ := bkeep (w := w3) [w3.heap.size, w3.heap.size + 1] (by first | (simp; done) | (simp; omega)) (by first | (go_grown; done) | exact bdrewN (by go_grown) _) hb4; (try simp at hz4); clear hb4
      clear q4_
      go_wp2_with fail
      refine (specTraceRay_any _ _ _ _ _ _ _ _ _ _ _ _ (P.out.below (B := w4.heap.size) (by first | exact Below.refl _ _ | (go_grown; done) | exact bdrewN (by go_grown) _) (Nat.le_refl _))).mono ?_
      rintro e w5 ⟨⟨Ag, cg, rfl, q5_⟩, hb5⟩
      have P := Lib.hid (((P.out).below (B := w4.heap.size) (by first | exact Below.refl _ _ | (go_grown; done) | exact bdrewN (by go_grown) _) (Nat.le_refl _)).below hb5 (Nat.le_refl _))
      have E4 := Lib.hid (((E4.out).below (B := w4.heap.size) (by first | exact Below.refl _ _ | (go_grown; done) | exact bdrewN (by go_grown) _) (Nat.le_refl _)).below hb5 (Nat.le_refl _))
      have E5 := Lib.hid (q5_.at)
      obtain ⟨B5, hz5, q5, s5, t5, x5, y5, z5⟩ := bkeep (w := w3) [w3.heap.size, w3.heap.size + 1, w4.heap.size] (by first | (simp; done) | (simp; omega)) (by first | (go_grown; done) | exact bdrewN (by go_grown) _) hb5; (try simp at hz5); clear hb5
      clear q5_
      go_wp2_with fail
      refine (implRangesOf_any _ _ _ _ _ _ _ _ _ _ _ _ (P.out.below (B := w5.heap.size) (by first | exact Below.refl _ _ | (go_grown; done) | exact bdrewN (by go_grown) _) (Nat.le_refl _))).mono ?_
      rintro e w6 ⟨⟨Ar, cr, rfl, q6_⟩, hb6⟩
      have P := Lib.hid (((P.out).below (B := w5.heap.size) (by first | exact Below.refl _ _ | (go_grown; done) | exact bdrewN (by go_grown) _) (Nat.le_refl _)).below hb6 (Nat.le_refl _))
      have E4 := Lib.hid (((E4.out).below (B := w5.heap.size) (by first | exact Below.refl _ _ | (go_grown; done) | exact bdrewN (by go_grown) _) (Nat.le_refl _)).below hb6 (Nat.le_refl _))
      have E5 := Lib.hid (((E5.out).below (B := w5.heap.size) (by first | exact Below.refl _ _ | (go_grown; done) | exact bdrewN (by go_grown) _) (Nat.le_refl _)).below hb6 (Nat.le_refl _))
      have K6 := Lib.hid (q6_.at)
      obtain ⟨B6, hz6, q6, s6, t6, x6, y6, z6⟩ := bkeep (w := w3) [w3.heap.size, w3.heap.size + 1, w4.heap.size, w5.heap.size] (by first | (simp; done) | (simp; omega)) (by first | (go_grown; done) | exact bdrewN (by go_grown) _) hb6; (try simp at hz6); clear hb6
      clear q6_
      go_wp2_with fail
      refine (specRangesOf_any _ _ _ _ _ _ _ _ _ _ _ _ (P.out.below (B := w6.heap.size) (by first | exact Below.refl _ _ | (go_grown; done) | exact bdrewN (by go_grown) _) (Nat.le_refl _))).mono ?_
      rintro e w7 ⟨⟨As, cs, rfl, q7_⟩, hb7⟩
      have P := Lib.hid (((P.out).below (B := w6.heap.size) (by first | exact Below.refl _ _ | (go_grown; done) | exact bdrewN (by go_grown) _) (Nat.le_refl _)).below hb7 (Nat.le_refl _))
      have E4 := Lib.hid (((E4.out).below (B := w6.heap.size) (by first | exact Below.refl _ _ | (go_grown; done) | exact bdrewN (by go_grown) _) (Nat.le_refl _)).below hb7 (Nat.le_refl _))
      have E5 := Lib.hid (((E5.out).below (B := w6.heap.size) (by first | exact Below.refl _ _ | (go_grown; done) | exact bdrewN (by go_grown) _) (Nat.le_refl _)).below hb7 (Nat.le_refl _))
      have K6 := Lib.hid (((K6.out).below (B := w6.heap.size) (by first | exact Below.refl _ _ | (go_grown; done) | exact bdrewN (by go_grown) _) (Nat.le_refl _)).below hb7 (Nat.le_refl _))
      have K7 := Lib.hid (q7_.at)
      obtain ⟨B7, hz7, q7, s7, t7, x7, y7, z7⟩ := bkeep (w := w3) [w3.heap.size, w3.heap.size + 1, w4.heap.size, w5.heap.size] (by first | (simp; done) | (simp; omega)) (by first | (go_grown; done) | exact bdrewN (by go_grown) _) hb7; (try simp at hz7); clear hb7
      clear q7_
      go_upto_region 8 with fail
      refine genS (S := fun w' => Below w3.heap.size w3 w' ∧ w3.heap.size < w'.heap.size ∧ w3.heap.size + 1 < w'.heap.size ∧ w4.heap.size < w'.heap.size ∧ w5.heap.size < w'.heap.size ∧ w'.cell? ⟨w3.heap.size, 0, none⟩ = some (.slice A1 (List.length ts) c1) ∧ w'.cell? ⟨w3.heap.size, 1, none⟩ = some (.slice A2 (List.length ls) c2) ∧ w'.cell? ⟨w3.heap.size + 1, 0, none⟩ = some (.int .i64 co) ∧ w'.cell? ⟨w3.heap.size + 1, 1, none⟩ = some (.int .i64 si) ∧ w'.cell? ⟨w3.heap.size + 1, 2, none⟩ = some (.int .i64 hy) ∧ w'.cell? ⟨w4.heap.size, 0, none⟩ = some (.int .i64 (trX ts ls src co si hy n).k) ∧ w'.cell? ⟨w4.heap.size, 1, none⟩ = some (.bool (trX ts ls src co si hy n).d) ∧ w'.cell? ⟨w4.heap.size, 2, none⟩ = some (.int .i64 (trX ts ls src co si hy n).lo) ∧ w'.cell? ⟨w4.heap.size, 3, none⟩ = some (.int .i64 (trX ts ls src co si hy n).hi) ∧ w'.cell? ⟨w5.heap.size, 0, none⟩ = some (.int .i64 (trX ts ls src co si hy n).k) ∧ w'.cell? ⟨w5.heap.size, 1, none⟩ = some (.bool (trX ts ls src co si hy n).d) ∧ w'.cell? ⟨w5.heap.size, 2, none⟩ = some (.int .i64 (trX ts ls src co si hy n).lo) ∧ w'.cell? ⟨w5.heap.size, 3, none⟩ = some (.int .i64 (trX ts ls src co si hy n).hi) ∧ ProfAt w' A1 c1 A2 c2 ts ls ∧ IntsAt w' Ae ce (trL ts ls src co si hy n) ∧ IntsAt w' Ag cg (trL ts ls src co si hy n) ∧ KAt w' Ar cr 2 ((rgL ts ls src co si hy n).map ivCell) ∧ KAt w' As cs 2 ((rgL ts ls src co si hy n).map ivCell)) ⟨(by first | exact B7 | exact bdrewN B7 _ | exact bdrewN (bdrewN B7 _) _ | (go_grown; done) | (go_grown <;> exact bdrewN B7 _)), by first | omega | (simp; done) | (simp; omega), by first | omega | (simp; done) | (simp; omega), by first | omega | (simp; done) | (simp; omega), by first | omega | (simp; done) | (simp; omega), by simp [*, go_sem], by simp [*, go_sem], by simp [*, go_sem], by simp [*, go_sem], by simp [*, go_sem], by simp [*, go_sem], by simp [*, go_sem], by simp [*, go_sem], by simp [*, go_sem], by simp [*, go_sem], by simp [*, go_sem], by simp [*, go_sem], by simp [*, go_sem], (P.out).below (B := w7.heap.size) (by first | exact Below.refl _ _ | exact bdrewN (Below.refl _ _) _ | exact bdrewN (bdrewN (Below.refl _ _) _) _ | (go_grown; done) | exact bdrewN (by go_grown) _) (Nat.le_refl _), (E4.out).below (B := w7.heap.size) (by first | exact Below.refl _ _ | exact bdrewN (Below.refl _ _) _ | exact bdrewN (bdrewN (Below.refl _ _) _) _ | (go_grown; done) | exact bdrewN (by go_grown) _) (Nat.le_refl _), (E5.out).below (B := w7.heap.size) (by first | exact Below.refl _ _ | exact bdrewN (Below.refl _ _) _ | exact bdrewN (bdrewN (Below.refl _ _) _) _ | (go_grown; done) | exact bdrewN (by go_grown) _) (Nat.le_refl _), (K6.out).below (B := w7.heap.size) (by first | exact Below.refl _ _ | exact bdrewN (Below.refl _ _) _ | exact bdrewN (bdrewN (Below.refl _ _) _) _ | (go_grown; done) | exact bdrewN (by go_grown) _) (Nat.le_refl _), (K7.out).below (B := w7.heap.size) (by first | exact Below.refl _ _ | exact bdrewN (Below.refl _ _) _ | exact bdrewN (bdrewN (Below.refl _ _) _) _ | (go_grown; done) | exact bdrewN (by go_grown) _) (Nat.le_refl _)⟩ ?_
      clear q4 s4 t4 x4 y4 z4 hz4 q5 s5 t5 x5 y5 z5 hz5 q6 s6 t6 x6 y6 z6 hz6 q7 s7 t7 x7 y7 z7 hz7
      rintro w8 ⟨B8, lt8_0, lt8_1, lt8_2, lt8_3, c8_0, c8_1, c8_2, c8_3, c8_4, c8_5, c8_6, c8_7, c8_8, c8_9, c8_10, c8_11, c8_12, rr_P, rr_E4, rr_E5, rr_K6, rr_K7⟩
      have P := Lib.hid rr_P; clear rr_P
      have E4 := Lib.hid rr_E4; clear rr_E4
      have E5 := Lib.hid rr_E5; clear rr_E5
      have K6 := Lib.hid rr_K6; clear rr_K6
      have K7 := Lib.hid rr_K7; clear rr_K7
      have LIN := Lib.hid (show ∀ w, IntsAt w Ae ce (trL ts ls src co si hy n) → IntsAt w Ag cg (trL ts ls src co si hy n) → Calls Try.prog 70 #[.slice Ae (trL ts ls src co si hy n).length ce, .slice Ag (trL ts ls src co si hy n).length cg] w fun e w' => e = .returned (.bool true) ∧ Below w.heap.size w w' from fun w h1 h2 => by have q := likeInts_same Ae Ag ce cg (trL ts ls src co si hy n) w h1 h2; exact q)
      go_wp2_with (first
        | (go_at_call 70; refine (LIN.out _ (E4.out.below (B := w8.heap.size) (by first | exact Below.refl _ _ | (go_grown; done) | exact bdrewN (by go_grown) _) (Nat.le_refl _)) (E5.out.below (B := w8.heap.size) (by first | exact Below.refl _ _ | (go_grown; done) | exact bdrewN (by go_grown) _) (Nat.le_refl _))).mono ?_; rintro e w9 ⟨rfl, hb9⟩; obtain ⟨B9, hz9, q9, s9, t9, x9, y9, z9⟩ := bkeep (w := w8) [w3.heap.size, w3.heap.size + 1, w4.heap.size, w5.heap.size] (by first | (simp; done) | (simp; omega)) (by first | (go_grown; done) | exact bdrewN (by go_grown) _) hb9; (try simp at hz9); clear hb9)
        | (go_at_call 71; refine (likeRanges9_same Ar As cr cs _ ((rgL ts ls src co si hy n).map ivCell) _ (K6.out.below (B := w8.heap.size) (by first | exact Below.refl _ _ | (go_grown; done) | exact bdrewN (by go_grown) _) (Nat.le_refl _)) (K7.out.below (B := w8.heap.size) (by first | exact Below.refl _ _ | (go_grown; done) | exact bdrewN (by go_grown) _) (Nat.le_refl _)) (by first | exact (List.length_map _).trans LR.out | exact List.length_map _) (rg_iv _)).mono ?_; rintro e w10 ⟨rfl, hb10⟩; obtain ⟨B10, hz10, q10, s10, t10, x10, y10, z10⟩ := bkeep (w := w8) [w3.heap.size, w3.heap.size + 1, w4.heap.size, w5.heap.size] (by first | (simp; done) | (simp; omega)) (by first | (go_grown; done) | exact bdrewN (by go_grown) _) hb10; (try simp at hz10); clear hb10))
      go_ret
      exact ⟨rfl, B3.out.trans ((B8.trans (Below.mono (show Below w8.heap.size w8 _ by first | exact B10 | (go_grown; done) | exact bdrewN B10 _ | exact bdrewN (by go_grown) _) B8.size)).mono B3.out.size)⟩
end Go.Proofs.Ytmgmhaikehjddaa
