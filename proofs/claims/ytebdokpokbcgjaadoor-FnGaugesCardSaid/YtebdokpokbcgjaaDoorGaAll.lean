/- Texts in one: Dmg, DrawRg, DrawShG, GaP, GaTop. -/
import Derived.Test.YtebdokpokbcgjaaDoorRdM
import Derived.Test.YtebdokpokbcgjaaDoorDrawLem
import Derived.Deep.DeepCutAuto
import Derived.Test.YtebdokpokbcgjaaDoorDraw20
import Derived.Test.YtebdokpokbcgjaaDoorGtS
import Derived.Deep.RegionHeld3
import Derived.BigRegion
import Derived.Test.YtebdokpokbcgjaaDoorRgP
import Derived.Test.YtebdokpokbcgjaaDoorShift
import Derived.Test.YtebdokpokbcgjaaDoorShift2
import Derived.Test.YtebdokpokbcgjaaDoorGtI
import Derived.Test.YtebdokpokbcgjaaDoorRgI
import Derived.Test.YtebdokpokbcgjaaDoorRgS
import Derived.Test.YtebdokpokbcgjaaDoorBig
import Derived.Test.YtebdokpokbcgjaaDoorLike
namespace Go.Proofs.YtebdokpokbcgjaaDoor
section
set_option linter.unusedSimpArgs false
set_option linter.unusedVariables false
open Go.RowKit

theorem layD_ {T P : Prop} (h : T) (k : T → P) : P := k h
theorem strsize (l : List UInt8) : (⟨l.toArray⟩ : ByteArray).size = l.length := rfl
theorem exL (l : List UInt8) (k : Nat) (h : k ≤ l.length) : ∃ p : List UInt8, (⟨l.toArray⟩ : ByteArray).extract 0 k = ⟨p.toArray⟩ ∧ p.length = k := ⟨l.take k, by rw [ex_drop]; rfl, by simp; omega⟩
theorem exR (l : List UInt8) (k : Nat) (h : k ≤ l.length) : ∃ p : List UInt8, (⟨l.toArray⟩ : ByteArray).extract k l.length = ⟨p.toArray⟩ ∧ p.length = l.length - k := ⟨l.drop k, by rw [ex_drop, List.take_length], by simp⟩
set_option maxRecDepth 20000 in
set_option maxHeartbeats 4000000 in
theorem l01Damage_any (S : Nat) (A : Option Addr) (c : Nat) (xs : List Int) (l : List UInt8) (w : World) (h : SrcAt w S A c xs) (hl : l.length ≤ 1000000) :
    Calls Tryd.prog 75 #[.pointer (some ⟨S, 0, none⟩), strL l] w fun e w' => (∃ m : List UInt8, e = .returned (strL m) ∧ m.length ≤ l.length + 1) ∧ SrcAt w' S A c xs ∧ ChgB S (S + 1) w w' := by
  have ltS := h.lt
  have SS := Lib.hid h; have CC := Lib.hid (ChgB.refl S (S + 1) w); clear h
  have W1 : IntKind.i64.wrap ((l.length : Int) + 1) = (l.length : Int) + 1 := IntWalk.i64_in _ (by omega)
  go_enter Tryd.func75, Tryd.ntmps75
  go_wp2_with fail
  refine (l01Next_any S A c xs _ _ SS.out).mono ?_
  rintro e w1 ⟨⟨n1, rfl, n10, n11⟩, s1, ch1⟩
  have CC := Lib.hid ch1.toB; have SS := Lib.hid s1; clear s1 ch1 W1
  obtain ⟨k, rfl⟩ := Int.eq_ofNat_of_zero_le n10
  have zz1 : w.heap.size ≤ w1.heap.size := CC.out.size
  have hk : k ≤ l.length := by omega
  have hk0 : (0 : Int) ≤ (k : Int) := by omega
  have hk1 : (k : Int) ≤ l.length := by omega
  clear n10 n11
  obtain ⟨p, hp, hpl⟩ := exL l k hk
  obtain ⟨q, hq, hql⟩ := exR l k hk
  go_wp2_with fail
  refine (l01Next_any S A c xs _ _ SS.out).mono ?_
  rintro e w2 ⟨⟨n2, rfl, n20, n21⟩, s2, ch2⟩
  have CC := Lib.hid (CC.out.trans ch2.toB); have SS := Lib.hid s2; clear s2 ch2
  have zz2 : S + 1 ≤ w2.heap.size := SS.out.lt
  by_cases k0 : n2 = 0
  · subst k0
    go_wp2
    go_ret
    exact ⟨⟨p, rfl, by omega⟩, SS.out, CC.out⟩
  · have k0' : (n2 == 0) = false := beq_eq_false_iff_ne.2 k0
    by_cases k1 : n2 = 1
    · subst k1
      have DM := Lib.hid (show ∀ n : Int, 0 ≤ n → n < 8 → ∃ u : List UInt8, u.length = 1 ∧ (#[.string ⟨#[48]⟩, .string ⟨#[49]⟩, .string ⟨#[32]⟩, .string ⟨#[45]⟩, .string ⟨#[46]⟩, .string ⟨#[97]⟩, .string ⟨#[10]⟩, .string ⟨#[44]⟩] : Array Value)[n.toNat]? = some (strL u) ∧ ([.string ⟨#[48]⟩, .string ⟨#[49]⟩, .string ⟨#[32]⟩, .string ⟨#[45]⟩, .string ⟨#[46]⟩, .string ⟨#[97]⟩, .string ⟨#[10]⟩, .string ⟨#[44]⟩] : List Value)[n.toNat]? = some (strL u) ∧ ∀ h, ([.string ⟨#[48]⟩, .string ⟨#[49]⟩, .string ⟨#[32]⟩, .string ⟨#[45]⟩, .string ⟨#[46]⟩, .string ⟨#[97]⟩, .string ⟨#[10]⟩, .string ⟨#[44]⟩] : List Value)[n.toNat]'h = strL u from by
        intro n h1 h2
        rcases (show n = 0 ∨ n = 1 ∨ n = 2 ∨ n = 3 ∨ n = 4 ∨ n = 5 ∨ n = 6 ∨ n = 7 by omega) with rfl | rfl | rfl | rfl | rfl | rfl | rfl | rfl
        all_goals exact ⟨_, rfl, rfl, rfl, fun _ => rfl⟩)
      clear k0 k0' n20 n21
      go_wp2_with fail
      go_region_with (first
          | (go_at_call 71; refine (l01Next_any S A c xs _ _ (SS.out.keepS (by repeat' (first | with_reducible exact Keep.refl _ _ _ | with_reducible refine Keep.setB ?_ ?_ _ | with_reducible refine Keep.alloc ?_ ?_ _ | with_reducible refine Keep.drew ?_ | omega | (simp; done) | (simp; omega))))).mono ?_; rintro e w3 ⟨⟨n3, rfl, n30, n31⟩, s3, ch3⟩; have n32 : n3 < 8 := (by omega); obtain ⟨u, hul, hu, hv, hw⟩ := DM.out n3 n30 n32; refine layD_ (T := w3.cell? ⟨w2.heap.size, n3.toNat, none⟩ = some (strL u)) ?_ (fun hcu => ?_); (focus (rw [ch3.old (by omega)]; simp [go_sem, hv]; done)); have CC := Lib.hid ((show ChgB S (S + 1) w _ from (by repeat' (first | with_reducible exact CC.out | with_reducible refine ChgB.alloc ?_ _ | with_reducible refine ChgB.drew ?_ | omega | (simp; done) | (simp; omega)))).trans ch3.toB); have SS := Lib.hid s3; have zs3 := ch3.size; (try simp only [World.size_alloc, World.size_drew] at zs3); have zz3 : S + 1 ≤ w3.heap.size := (by omega); clear zs3 ch3 s3 n31; have z1 : (9223372036854775807 < p.length + u.length) = False := eq_false (by omega); have z2 : (9223372036854775807 < p.length + u.length + q.length) = False := eq_false (by omega))
          | (go_at_call 71; refine (l01Next_any S A c xs _ _ (SS.out.keepS (by repeat' (first | with_reducible exact Keep.refl _ _ _ | with_reducible refine Keep.setB ?_ ?_ _ | with_reducible refine Keep.alloc ?_ ?_ _ | with_reducible refine Keep.drew ?_ | omega | (simp; done) | (simp; omega))))).mono ?_; rintro e w3 ⟨⟨n3, rfl, n30, n31⟩, s3, ch3⟩; have n32 : n3 < 8 := (by omega); obtain ⟨u, hul, hu, hv, hw⟩ := DM.out n3 n30 n32; have CC := Lib.hid ((show ChgB S (S + 1) w _ from (by repeat' (first | with_reducible exact CC.out | with_reducible refine ChgB.alloc ?_ _ | with_reducible refine ChgB.drew ?_ | omega | (simp; done) | (simp; omega)))).trans ch3.toB); have SS := Lib.hid s3; have zs3 := ch3.size; (try simp only [World.size_alloc, World.size_drew] at zs3); have zz3 : S + 1 ≤ w3.heap.size := (by omega); clear zs3 ch3 s3 n31; have z1 : (9223372036854775807 < p.length + u.length) = False := eq_false (by omega); have z2 : (9223372036854775807 < p.length + u.length + q.length) = False := eq_false (by omega)))
      all_goals go_wp2
      all_goals go_ret
      all_goals exact ⟨⟨p ++ u ++ q, by rw [cat, cat]; rfl, by simp only [List.length_append]; omega⟩, SS.out.keepS (by repeat' (first | with_reducible exact Keep.refl _ _ _ | with_reducible refine Keep.setB ?_ ?_ _ | with_reducible refine Keep.alloc ?_ ?_ _ | with_reducible refine Keep.drew ?_ | omega | (simp; done) | (simp; omega))), (by repeat' (first | with_reducible exact CC.out | with_reducible refine ChgB.alloc ?_ _ | with_reducible refine ChgB.drew ?_ | with_reducible refine ChgB.drewN ?_ _ | omega | (simp; done) | (simp; omega)))⟩
    · have k1' : (n2 == 1) = false := beq_eq_false_iff_ne.2 k1
      by_cases k2 : n2 = 2
      · subst k2
        clear k0 k0' k1 k1' n20 n21
        by_cases hlt : (k : Int) < l.length
        · obtain ⟨q', hq', hql'⟩ := exR l (k + 1) (by omega)
          have W2 : IntKind.i64.wrap ((k : Int) + 1) = (k : Int) + 1 := IntWalk.i64_in _ (by omega)
          have i1 : (0 : Int) ≤ (k : Int) + 1 := by omega
          have i2 : (k : Int) + 1 ≤ l.length := by omega
          have i3 : ((k : Int) + 1).toNat = k + 1 := by omega
          have z1 : (9223372036854775807 < p.length + q'.length) = False := eq_false (by omega)
          go_wp2_with fail
          go_region
          all_goals go_wp2
          all_goals go_ret
          all_goals exact ⟨⟨p ++ q', by rw [cat]; rfl, by simp only [List.length_append]; omega⟩, SS.out.keepS (by repeat' (first | with_reducible exact Keep.refl _ _ _ | with_reducible refine Keep.setB ?_ ?_ _ | with_reducible refine Keep.alloc ?_ ?_ _ | with_reducible refine Keep.drew ?_ | omega | (simp; done) | (simp; omega))), (by repeat' (first | with_reducible exact CC.out | with_reducible refine ChgB.alloc ?_ _ | with_reducible refine ChgB.drew ?_ | with_reducible refine ChgB.drewN ?_ _ | omega | (simp; done) | (simp; omega)))⟩
        · go_wp2
          go_ret
          exact ⟨⟨l, rfl, by omega⟩, SS.out, CC.out⟩
      · have k2' : (n2 == 2) = false := beq_eq_false_iff_ne.2 k2
        go_wp2
        go_ret
        exact ⟨⟨l, rfl, by omega⟩, SS.out, CC.out⟩
end

section
set_option linter.unusedSimpArgs false
set_option linter.unusedVariables false
open Go.RowKit

theorem gtS_len (ts ls : List Int) : (gtS ts ls).length ≤ 1760 := by
  by_cases hp : gauB ts ls = true
  · have e : gtS ts ls = Lib.join (gtL ts ls ts.length) [32] := by unfold gtS; rw [if_pos hp]
    rw [e]
    exact gtJ_len (gau_is hp) (Nat.le_refl _)
  · have e : gtS ts ls = [] := by unfold gtS; rw [if_neg hp]
    rw [e]; simp
set_option maxRecDepth 20000 in
set_option maxHeartbeats 4000000 in
theorem drawReadGauge_any (A : Option Addr) (c : Nat) (xs : List Int) (w : World) (h : BytesAt w A c xs) :
    Calls Tryd.prog 31 #[.slice A xs.length c] w fun e w' => (∃ m : List UInt8, e = .returned (strL m) ∧ m.length ≤ 1000001) ∧ Below w.heap.size w w' := by
  have H := Lib.hid h; clear h
  go_enter Tryd.func31, Tryd.ntmps31
  go_wp2_with fail
  refine (l01From_any A c xs _ H.out).mono ?_
  rintro e w3 ⟨rfl, s3, hb3⟩
  have hS3 := s3.lt
  have SS := Lib.hid s3; have BB := Lib.hid hb3; clear s3 hb3
  go_wp2_with fail
  refine (l20Draw_any w.heap.size A c xs _ SS.out).mono ?_
  rintro e w4 ⟨⟨A1, c1, A2, c2, ts, ls, rfl, rp, -⟩, s4, ch4⟩
  have z4 := ch4.size
  have BB := Lib.hid (BB.out.trans (ch4.below (Nat.le_refl _) (by omega))); have RP := Lib.hid rp; have SS := Lib.hid s4; clear rp s4 ch4
  have hlen := gtS_len ts ls
  go_wp2_with fail
  refine (specGaugeText_any _ _ _ _ ts ls _ RP.out.at).mono ?_
  rintro e w5 ⟨rfl, hb5⟩
  have z5 := hb5.size
  have BB := Lib.hid (BB.out.trans (hb5.mono (by omega))); have SS := Lib.hid (SS.out.below hb5 (by omega)); clear hb5
  obtain ⟨T, hT⟩ : ∃ T, T = gtS ts ls := ⟨_, rfl⟩
  rw [← hT] at hlen ⊢
  clear hT
  go_wp2_with fail
  refine (l01Next_any w.heap.size A c xs _ _ SS.out).mono ?_
  rintro e w6 ⟨⟨n6, rfl, n60, n61⟩, s6, ch6⟩
  have BB := Lib.hid (BB.out.trans (ch6.toB.below (Nat.le_refl _) (by omega))); have SS := Lib.hid s6; have z6 := ch6.size; clear s6 ch6
  by_cases k0 : n6 = 0
  · subst k0
    go_wp2_with fail
    refine (l01Damage_any w.heap.size A c xs T _ SS.out (by omega)).mono ?_
    rintro e w7 ⟨⟨m, rfl, hm⟩, s7, ch7⟩
    have BB := Lib.hid (BB.out.trans (ch7.below (Nat.le_refl _) (by omega))); clear s7 ch7
    go_wp2
    go_ret
    exact ⟨⟨m, rfl, by omega⟩, BB.out⟩
  · have k0' : (n6 == 0) = false := beq_eq_false_iff_ne.2 k0
    go_wp2
    go_ret
    exact ⟨⟨T, rfl, by omega⟩, BB.out⟩
end

section
set_option linter.unusedSimpArgs false
set_option linter.unusedVariables false
open Go.RowKit

theorem ltcG {P : Prop} {c lo hi : Nat} {w w1 : World} (hc : Chg lo hi w w1) (h : c < w.heap.size) (k : c < w.heap.size → P) : P := k h

set_option maxRecDepth 100000 in
set_option maxHeartbeats 8000000 in
theorem drawShiftGauge_any (A : Option Addr) (c : Nat) (xs : List Int) (w : World) (h : BytesAt w A c xs) :
    Calls Tryd.prog 28 #[.slice A xs.length c] w fun e w' => (∃ A1 c1 A2 c2 ts ls a b, e = .returned (.tuple #[profV A1 (List.length ts) c1 A2 (List.length ls) c2, .int .i64 a, .int .i64 b]) ∧ ResP w' w.heap.size w'.heap.size A1 c1 A2 c2 ts ls ∧ ts.length ≤ 9 ∧ ls.length ≤ 9) ∧ Below w.heap.size w w' := by
  have H := Lib.hid h; clear h
  go_enter Tryd.func28, Tryd.ntmps28
  go_wp2_with fail
  refine (l01From_any A c xs _ (H.out.below (B := w.heap.size) (by go_grown) (Nat.le_refl _))).mono ?_
  rintro e w3 ⟨rfl, s3, hb3⟩
  obtain ⟨T3, z3, q3, f3, x3, y3⟩ := lkeep (w := w) [w.heap.size] (by first | (simp; done) | (simp; omega)) (by go_grown) hb3
  simp only [World.size_alloc] at s3
  have hS3 := s3.lt
  have l3_0 := x3 (w.heap.size) (by simp)
  have SS := Lib.hid s3; have BB := Lib.hid T3; clear s3 T3 hb3
  have hlw : w.heap.size < w3.heap.size := l3_0
  go_upto_region 3 with (go_at_call 70; refine (l20Draw_any (w.heap.size + 1) A c xs _ (SS.out.keepS (by repeat' (first | with_reducible exact Keep.refl _ _ _ | with_reducible refine Keep.setB ?_ ?_ _ | with_reducible refine Keep.alloc ?_ ?_ _ | with_reducible refine Keep.drew ?_ | omega | (simp; done) | (simp; omega))))).mono ?_; rintro e w4 ⟨⟨A1, c1, A2, c2, ts, ls, rfl, rp, h1, h2, h3, h4⟩, s4', ch4⟩; have BB := Lib.hid ((show Below w.heap.size w _ from (by first | with_reducible exact BB.out | (have hb_ := BB.out; go_grown; done) | (have hb_ := BB.out; exact bdrewN (by go_grown) _))).trans (ch4.below (by omega) (by first | omega | (simp; done) | (simp; omega)))); have SS := Lib.hid s4'; obtain ⟨z4, q4, f4, x4, y4⟩ := ckeepB [w.heap.size] (by first | (simp; done) | (simp; omega)) ch4; (try simp only [World.size_alloc, World.size_drew, size_set] at z4); clear s4' ch4; have l4_0 := x4 (w.heap.size) (by simp); have RP := Lib.hid rp; clear rp)
  have hz4 : w3.heap.size ≤ w4.heap.size := z4
  obtain ⟨naa1, nab1⟩ : (w.heap.size = w4.heap.size) = False ∧ (w4.heap.size = w.heap.size) = False := by
    refine ⟨?_, ?_⟩ <;> exact eq_false (by omega)
  have nS2 : (w.heap.size + 1 = w4.heap.size) = False := eq_false (by omega)
  have nS3 : (w4.heap.size = w.heap.size + 1) = False := eq_false (by omega)
  refine genS (S := fun w' => w.heap.size < w'.heap.size ∧ w4.heap.size < w'.heap.size ∧ w'.cell? ⟨w.heap.size, 0, none⟩ = some (.slice none 0 0) ∧ w'.cell? ⟨w.heap.size, 1, none⟩ = some (.slice none 0 0) ∧ w'.cell? ⟨w4.heap.size, 0, none⟩ = some (.slice A1 (List.length ts) c1) ∧ w'.cell? ⟨w4.heap.size, 1, none⟩ = some (.slice A2 (List.length ls) c2) ∧ (∀ o, w'.frozen? ⟨w.heap.size, o, none⟩ = false) ∧ Below w.heap.size w w' ∧ SrcAt w' (w.heap.size + 1) A c xs ∧ ResP w' w3.heap.size w4.heap.size A1 c1 A2 c2 ts ls) ⟨by first | omega | (simp; done) | (simp; omega), by first | omega | (simp; done) | (simp; omega), by simp [*, go_sem], by simp [*, go_sem], by simp [*, go_sem], by simp [*, go_sem], fun o => by simp [*, go_sem], (by first | with_reducible exact BB.out | (have hb_ := BB.out; go_grown; done) | (have hb_ := BB.out; exact bdrewN (by go_grown) _)), SS.out.keepS (by repeat' (first | with_reducible exact Keep.refl _ _ _ | with_reducible refine Keep.setB ?_ ?_ _ | with_reducible refine Keep.alloc ?_ ?_ _ | with_reducible refine Keep.drew ?_ | omega | (simp; done) | (simp; omega))), RP.out.kept (by repeat' (first | with_reducible exact Keep.refl _ _ _ | with_reducible refine Keep.setB ?_ ?_ _ | with_reducible refine Keep.alloc ?_ ?_ _ | with_reducible refine Keep.drew ?_ | omega | (simp; done) | (simp; omega)))⟩ ?_
  clear z3 q3 f3 x3 y3 z4 q4 f4 x4 y4 l3_0 l4_0
  rintro w5 ⟨lt5_0, lt5_1, c5_0, c5_1, c5_2, c5_3, fz5_0, cc, ss, rr_RP⟩
  have BB := Lib.hid cc; have SS := Lib.hid ss; have RP := Lib.hid rr_RP; clear cc ss rr_RP
  go_wp2_with fail
  refine (l01Next_any (w.heap.size + 1) A c xs _ _ (SS.out.keepS (by repeat' (first | with_reducible exact Keep.refl _ _ _ | with_reducible refine Keep.setB ?_ ?_ _ | with_reducible refine Keep.alloc ?_ ?_ _ | with_reducible refine Keep.drew ?_ | omega | (simp; done) | (simp; omega))))).mono ?_; rintro e w6 ⟨⟨n6, rfl, n60, n61⟩, s6', ch6⟩; have BB := Lib.hid ((show Below w.heap.size w _ from (by first | with_reducible exact BB.out | (have hb_ := BB.out; go_grown; done) | (have hb_ := BB.out; exact bdrewN (by go_grown) _))).trans (ch6.toB.below (by omega) (by first | omega | (simp; done) | (simp; omega)))); have RP := Lib.hid (RP.out.keepB (by repeat' (first | with_reducible exact Keep.refl _ _ _ | with_reducible refine Keep.setB ?_ ?_ _ | with_reducible refine Keep.alloc ?_ ?_ _ | with_reducible refine Keep.drew ?_ | omega | (simp; done) | (simp; omega))) ch6.toB (by omega) (by first | omega | (simp; done) | (simp; omega))); have SS := Lib.hid s6'; obtain ⟨z6, q6, f6, x6, y6⟩ := ckeepB [w.heap.size, w4.heap.size] (by first | (simp; done) | (simp; omega)) ch6.toB; (try simp only [World.size_alloc, World.size_drew, size_set] at z6); clear s6' ch6; have l6_0 := x6 (w.heap.size) (by simp); have l6_1 := x6 (w4.heap.size) (by simp)
  have la6_0 : w.heap.size < w6.heap.size := by omega
  have lb6_0 : w.heap.size < w6.heap.size + 1 := by omega
  have lc6_0 : w.heap.size < w6.heap.size + 1 + 1 := by omega
  have la6_1 : w4.heap.size < w6.heap.size := by omega
  have lb6_1 : w4.heap.size < w6.heap.size + 1 := by omega
  have lc6_1 : w4.heap.size < w6.heap.size + 1 + 1 := by omega
  by_cases k0 : n6 = 0
  · subst k0
    have TK1 := Lib.hid True.intro
    go_wp2_with fail
    go_region_held3 (fun w' => w'.cell? ⟨w4.heap.size, 0, none⟩ = some (.slice A1 (List.length ts) c1) ∧ w'.cell? ⟨w4.heap.size, 1, none⟩ = some (.slice A2 (List.length ls) c2)) (first | (go_keep; done) | (simp [*, go_sem]; done))
      (first
        | (go_at_call 72; have m_ := TK1; clear m_ TK1; refine (l01Pick_any (w.heap.size + 1) A c xs _ 0 _ [1000000, 1000001, -1000] _ (SS.out.keepS (by repeat' (first | with_reducible exact Keep.refl _ _ _ | with_reducible refine Keep.setB ?_ ?_ _ | with_reducible refine Keep.alloc ?_ ?_ _ | with_reducible refine Keep.drew ?_ | omega | (simp; done) | (simp; omega)))) ⟨by simp, by simp, .inr ⟨_, 0, rfl, by first | omega | (simp; done) | (simp; omega), fun i x hx => by rcases i with _ | _ | _ | _ | i <;> simp at hx <;> subst hx <;> simp [*, go_sem]⟩⟩ (by simp) (by first | omega | (simp; omega))).mono ?_; rintro e w7 ⟨⟨n7, rfl, nm7⟩, s7', ch7⟩; refine ltcG (c := w6.heap.size + 1) ch7 ?_ (fun hg7 => ?_); (focus (first | omega | (simp; done) | (simp; omega))); have BB := Lib.hid ((show Below w.heap.size w _ from (by first | with_reducible exact BB.out | (have hb_ := BB.out; go_grown; done) | (have hb_ := BB.out; exact bdrewN (by go_grown) _))).trans (ch7.toB.below (by omega) (by first | omega | (simp; done) | (simp; omega)))); have RP := Lib.hid (RP.out.keepB (by repeat' (first | with_reducible exact Keep.refl _ _ _ | with_reducible refine Keep.setB ?_ ?_ _ | with_reducible refine Keep.alloc ?_ ?_ _ | with_reducible refine Keep.drew ?_ | omega | (simp; done) | (simp; omega))) ch7.toB (by omega) (by first | omega | (simp; done) | (simp; omega))); have SS := Lib.hid s7'; obtain ⟨z7, q7, f7, x7, y7⟩ := ckeepB [w.heap.size, w4.heap.size, w6.heap.size, w6.heap.size + 1] (by first | (simp; done) | (simp; omega)) ch7.toB; (try simp only [World.size_alloc, World.size_drew, size_set] at z7); clear s7' ch7; have l7_0 := x7 (w.heap.size) (by simp); have l7_1 := x7 (w4.heap.size) (by simp); have l7_2 := x7 (w6.heap.size) (by simp); have l7_3 := x7 (w6.heap.size + 1) (by simp); clear nm7)
        | (go_at_call 72; have m_ := TK1; clear m_ TK1; refine (l01Pick_any (w.heap.size + 1) A c xs _ 0 _ [1000000, 1000001, -1000] _ (SS.out.keepS (by repeat' (first | with_reducible exact Keep.refl _ _ _ | with_reducible refine Keep.setB ?_ ?_ _ | with_reducible refine Keep.alloc ?_ ?_ _ | with_reducible refine Keep.drew ?_ | omega | (simp; done) | (simp; omega)))) ⟨by simp, by simp, .inr ⟨_, 0, rfl, by first | omega | (simp; done) | (simp; omega), fun i x hx => by rcases i with _ | _ | _ | _ | i <;> simp at hx <;> subst hx <;> simp [*, go_sem]⟩⟩ (by simp) (by first | omega | (simp; omega))).mono ?_; rintro e w7 ⟨⟨n7, rfl, nm7⟩, s7', ch7⟩; refine ltcG (c := w6.heap.size) ch7 ?_ (fun hg7 => ?_); (focus (first | omega | (simp; done) | (simp; omega))); have BB := Lib.hid ((show Below w.heap.size w _ from (by first | with_reducible exact BB.out | (have hb_ := BB.out; go_grown; done) | (have hb_ := BB.out; exact bdrewN (by go_grown) _))).trans (ch7.toB.below (by omega) (by first | omega | (simp; done) | (simp; omega)))); have RP := Lib.hid (RP.out.keepB (by repeat' (first | with_reducible exact Keep.refl _ _ _ | with_reducible refine Keep.setB ?_ ?_ _ | with_reducible refine Keep.alloc ?_ ?_ _ | with_reducible refine Keep.drew ?_ | omega | (simp; done) | (simp; omega))) ch7.toB (by omega) (by first | omega | (simp; done) | (simp; omega))); have SS := Lib.hid s7'; obtain ⟨z7, q7, f7, x7, y7⟩ := ckeepB [w.heap.size, w4.heap.size, w6.heap.size] (by first | (simp; done) | (simp; omega)) ch7.toB; (try simp only [World.size_alloc, World.size_drew, size_set] at z7); clear s7' ch7; have l7_0 := x7 (w.heap.size) (by simp); have l7_1 := x7 (w4.heap.size) (by simp); have l7_2 := x7 (w6.heap.size) (by simp); clear nm7)
        | (go_at_call 72; refine (l01Pick_any (w.heap.size + 1) A c xs _ 0 _ [2000, 2001, -2000] _ (SS.out.keepS (by repeat' (first | with_reducible exact Keep.refl _ _ _ | with_reducible refine Keep.setB ?_ ?_ _ | with_reducible refine Keep.alloc ?_ ?_ _ | with_reducible refine Keep.drew ?_ | omega | (simp; done) | (simp; omega)))) ⟨by simp, by simp, .inr ⟨_, 0, rfl, by first | omega | (simp; done) | (simp; omega), fun i x hx => by rcases i with _ | _ | _ | _ | i <;> simp at hx <;> subst hx <;> simp [*, go_sem]⟩⟩ (by simp) (by first | omega | (simp; omega))).mono ?_; rintro e w8 ⟨⟨n8, rfl, nm8⟩, s8', ch8⟩; have BB := Lib.hid ((show Below w.heap.size w _ from (by first | with_reducible exact BB.out | (have hb_ := BB.out; go_grown; done) | (have hb_ := BB.out; exact bdrewN (by go_grown) _))).trans (ch8.toB.below (by omega) (by first | omega | (simp; done) | (simp; omega)))); have RP := Lib.hid (RP.out.keepB (by repeat' (first | with_reducible exact Keep.refl _ _ _ | with_reducible refine Keep.setB ?_ ?_ _ | with_reducible refine Keep.alloc ?_ ?_ _ | with_reducible refine Keep.drew ?_ | omega | (simp; done) | (simp; omega))) ch8.toB (by omega) (by first | omega | (simp; done) | (simp; omega))); have SS := Lib.hid s8'; obtain ⟨z8, q8, f8, x8, y8⟩ := ckeepB [w.heap.size, w4.heap.size] (by first | (simp; done) | (simp; omega)) ch8.toB; (try simp only [World.size_alloc, World.size_drew, size_set] at z8); clear s8' ch8; have l8_0 := x8 (w.heap.size) (by simp); have l8_1 := x8 (w4.heap.size) (by simp); clear nm8))
    all_goals go_wp2
    all_goals refine bodyPost_ret (by simp [results, Tryd.results28, go_sem, *] <;> rfl) rfl ?_
    all_goals exact ⟨⟨_, _, _, _, ts, ls, _, _, rfl, ResP.mono (RP.out.kept (by repeat' (first | with_reducible exact Keep.refl _ _ _ | with_reducible refine Keep.setB ?_ ?_ _ | with_reducible refine Keep.alloc ?_ ?_ _ | with_reducible refine Keep.drew ?_ | omega | (simp; done) | (simp; omega)))) (by first | omega | (simp; done) | (simp; omega)) (by first | omega | (simp; done) | (simp; omega)), h2, h4⟩, (by first | with_reducible exact BB.out | (have hb_ := BB.out; go_grown; done) | (have hb_ := BB.out; exact bdrewN (by go_grown) _))⟩
  · have k0b : (n6 == 0) = false := beq_eq_false_iff_ne.2 k0
    have TK1 := Lib.hid True.intro
    go_wp2_with fail
    go_region_held3 (fun w' => w'.cell? ⟨w4.heap.size, 0, none⟩ = some (.slice A1 (List.length ts) c1) ∧ w'.cell? ⟨w4.heap.size, 1, none⟩ = some (.slice A2 (List.length ls) c2)) (first | (go_keep; done) | (simp [*, go_sem]; done))
      (first
        | (go_at_call 71; have m_ := TK1; clear m_ TK1; refine (l01Next_any (w.heap.size + 1) A c xs _ _ (SS.out.keepS (by repeat' (first | with_reducible exact Keep.refl _ _ _ | with_reducible refine Keep.setB ?_ ?_ _ | with_reducible refine Keep.alloc ?_ ?_ _ | with_reducible refine Keep.drew ?_ | omega | (simp; done) | (simp; omega))))).mono ?_; rintro e w7 ⟨⟨n7, rfl, n70, n71⟩, s7', ch7⟩; have BB := Lib.hid ((show Below w.heap.size w _ from (by first | with_reducible exact BB.out | (have hb_ := BB.out; go_grown; done) | (have hb_ := BB.out; exact bdrewN (by go_grown) _))).trans (ch7.toB.below (by omega) (by first | omega | (simp; done) | (simp; omega)))); have RP := Lib.hid (RP.out.keepB (by repeat' (first | with_reducible exact Keep.refl _ _ _ | with_reducible refine Keep.setB ?_ ?_ _ | with_reducible refine Keep.alloc ?_ ?_ _ | with_reducible refine Keep.drew ?_ | omega | (simp; done) | (simp; omega))) ch7.toB (by omega) (by first | omega | (simp; done) | (simp; omega))); have SS := Lib.hid s7'; obtain ⟨z7, q7, f7, x7, y7⟩ := ckeepB [w.heap.size, w4.heap.size] (by first | (simp; done) | (simp; omega)) ch7.toB; (try simp only [World.size_alloc, World.size_drew, size_set] at z7); clear s7' ch7; have l7_0 := x7 (w.heap.size) (by simp); have l7_1 := x7 (w4.heap.size) (by simp))
        | (go_at_call 71; refine (l01Next_any (w.heap.size + 1) A c xs _ _ (SS.out.keepS (by repeat' (first | with_reducible exact Keep.refl _ _ _ | with_reducible refine Keep.setB ?_ ?_ _ | with_reducible refine Keep.alloc ?_ ?_ _ | with_reducible refine Keep.drew ?_ | omega | (simp; done) | (simp; omega))))).mono ?_; rintro e w8 ⟨⟨n8, rfl, n80, n81⟩, s8', ch8⟩; have BB := Lib.hid ((show Below w.heap.size w _ from (by first | with_reducible exact BB.out | (have hb_ := BB.out; go_grown; done) | (have hb_ := BB.out; exact bdrewN (by go_grown) _))).trans (ch8.toB.below (by omega) (by first | omega | (simp; done) | (simp; omega)))); have RP := Lib.hid (RP.out.keepB (by repeat' (first | with_reducible exact Keep.refl _ _ _ | with_reducible refine Keep.setB ?_ ?_ _ | with_reducible refine Keep.alloc ?_ ?_ _ | with_reducible refine Keep.drew ?_ | omega | (simp; done) | (simp; omega))) ch8.toB (by omega) (by first | omega | (simp; done) | (simp; omega))); have SS := Lib.hid s8'; obtain ⟨z8, q8, f8, x8, y8⟩ := ckeepB [w.heap.size, w4.heap.size] (by first | (simp; done) | (simp; omega)) ch8.toB; (try simp only [World.size_alloc, World.size_drew, size_set] at z8); clear s8' ch8; have l8_0 := x8 (w.heap.size) (by simp); have l8_1 := x8 (w4.heap.size) (by simp)))
    all_goals go_wp2
    all_goals refine bodyPost_ret (by simp [results, Tryd.results28, go_sem, *] <;> rfl) rfl ?_
    all_goals exact ⟨⟨_, _, _, _, ts, ls, _, _, rfl, ResP.mono (RP.out.kept (by repeat' (first | with_reducible exact Keep.refl _ _ _ | with_reducible refine Keep.setB ?_ ?_ _ | with_reducible refine Keep.alloc ?_ ?_ _ | with_reducible refine Keep.drew ?_ | omega | (simp; done) | (simp; omega)))) (by first | omega | (simp; done) | (simp; omega)) (by first | omega | (simp; done) | (simp; omega)), h2, h4⟩, (by first | with_reducible exact BB.out | (have hb_ := BB.out; go_grown; done) | (have hb_ := BB.out; exact bdrewN (by go_grown) _))⟩
end

section
set_option linter.unusedSimpArgs false
set_option linter.unusedVariables false

theorem spl_hit {b : UInt8} {p r : List UInt8} (h : ∀ c ∈ p, c ≠ b) : spl b (p ++ b :: r) = p :: spl b r := by unfold spl; rw [splB_hit b p r [] h]; rfl
theorem spl_miss {b : UInt8} {p : List UInt8} (h : ∀ c ∈ p, c ≠ b) : spl b p = [p] := by unfold spl; rw [splB_miss b p [] h]; rfl
theorem split_join (b : UInt8) : ∀ (ws : List (List UInt8)), ws ≠ [] → (∀ w ∈ ws, ∀ c ∈ w, c ≠ b) → spl b (Lib.join ws [b]) = ws := by
  intro ws
  induction ws with
  | nil => intro h _; exact absurd rfl h
  | cons w r ih =>
    intro _ hw
    cases r with
    | nil =>
      show spl b (Lib.join [w] [b]) = [w]
      have e : Lib.join [w] [b] = w := by simp [Lib.join]
      rw [e, spl_miss (hw w (by simp))]
    | cons y r' =>
      have e : Lib.join (w :: y :: r') [b] = w ++ b :: Lib.join (y :: r') [b] := by simp [Lib.join]
      rw [e, spl_hit (hw w (by simp)), ih (by simp) (fun z hz => hw z (by simp [hz]))]
theorem pair_no {b d : UInt8} {x y : Int} (hb : b ≠ 45) (hd : dgB b = false) (hbd : d ≠ b) : ∀ c ∈ Lib.itoa x ++ [d] ++ Lib.itoa y, c ≠ b := by
  intro c hc
  simp only [List.mem_append, List.mem_singleton] at hc
  rcases hc with (hc | hc) | hc
  · exact itoa_no hb hd c hc
  · rw [hc]; exact hbd
  · exact itoa_no hb hd c hc
theorem wP_pair {b : UInt8} {x y : Int} (hb : b ≠ 45) (hd : dgB b = false) (hx : -1000000000000 < x ∧ x < 1000000000000) (hy : -1000000000000 < y ∧ y < 1000000000000) : wP b (Lib.itoa x ++ [b] ++ Lib.itoa y) = some (x, y) := by
  have e : Lib.itoa x ++ [b] ++ Lib.itoa y = Lib.itoa x ++ b :: Lib.itoa y := by simp
  unfold wP
  rw [e, spl_hit (itoa_no hb hd), spl_miss (itoa_no hb hd), rdL_two (rdS_itoa hx.1 hx.2) (rdS_itoa hy.1 hy.2)]
  rfl
/-- the pairs of two rows -/
def prP (ts ls : List Int) : Nat → List (Int × Int)
  | 0 => []
  | k + 1 => prP ts ls k ++ [(ts.getD k 0, ls.getD k 0)]
theorem prP_fst (ts ls : List Int) : ∀ k, k ≤ ts.length → (prP ts ls k).map Prod.fst = ts.take k := by
  intro k
  induction k with
  | zero => intro _; simp [prP]
  | succ k ih =>
    intro hk
    obtain ⟨x, hx⟩ : ∃ x, ts[k]? = some x := ⟨_, List.getElem?_eq_getElem (by omega)⟩
    rw [prP, List.map_append, ih (by omega), List.take_add_one, hx, List.getD_eq_getElem?_getD, hx]
    rfl
theorem prP_snd (ts ls : List Int) : ∀ k, k ≤ ls.length → (prP ts ls k).map Prod.snd = ls.take k := by
  intro k
  induction k with
  | zero => intro _; simp [prP]
  | succ k ih =>
    intro hk
    obtain ⟨x, hx⟩ : ∃ x, ls[k]? = some x := ⟨_, List.getElem?_eq_getElem (by omega)⟩
    rw [prP, List.map_append, ih (by omega), List.take_add_one, hx]
    simp [hx]
theorem gtL_no {ts ls : List Int} : ∀ k, ∀ w ∈ gtL ts ls k, ∀ c ∈ w, c ≠ 32 := by
  intro k
  induction k with
  | zero => intro w hw; simp [gtL] at hw
  | succ k ih =>
    intro w hw
    rw [gtL, List.mem_append] at hw
    rcases hw with hw | hw
    · exact ih w hw
    · simp at hw
      subst hw
      exact pair_no (by decide) (by decide) (by decide)
theorem gtL_rd {ts ls : List Int} (g : GauIs ts ls) : ∀ k, k ≤ ts.length → rdL (wP 64) (gtL ts ls k) = some (prP ts ls k) := by
  intro k
  induction k with
  | zero => intro _; rfl
  | succ k ih =>
    intro hk
    rw [gtL, prP]
    refine rdL_snoc ?_ _ _ (ih (by omega))
    obtain ⟨x, hx⟩ : ∃ x, ts[k]? = some x := ⟨_, List.getElem?_eq_getElem (by omega)⟩
    obtain ⟨y, hy⟩ : ∃ y, ls[k]? = some y := ⟨_, List.getElem?_eq_getElem (by have := g.l3; omega)⟩
    rw [List.getD_eq_getElem?_getD, List.getD_eq_getElem?_getD, hx, hy]
    have := g.t _ _ hx; have := g.v _ _ hy
    exact wP_pair (by decide) (by decide) (by simp; omega) (by simp; omega)
theorem rg_text {ts ls : List Int} (h : gauB ts ls = true) : rgT (gtS ts ls) = ts ∧ rgL (gtS ts ls) = ls ∧ rgK (gtS ts ls) = true := by
  have g := gau_is h
  have l1 := g.l1; have l3 := g.l3
  have e : gtS ts ls = Lib.join (gtL ts ls ts.length) [32] := by unfold gtS; rw [if_pos h]
  have hne : gtL ts ls ts.length ≠ [] := fun q => by have := gtL_len ts ls ts.length; rw [q] at this; simp at this; omega
  have hr : rdL (wP 64) (spl 32 (gtS ts ls)) = some (prP ts ls ts.length) := by rw [e, split_join 32 _ hne (gtL_no _)]; exact gtL_rd g _ (Nat.le_refl _)
  have f1 : (prP ts ls ts.length).map Prod.fst = ts := by rw [prP_fst _ _ _ (Nat.le_refl _), List.take_length]
  have f2 : (prP ts ls ts.length).map Prod.snd = ls := by rw [prP_snd _ _ _ (by omega), ← l3, List.take_length]
  obtain ⟨a, b, c⟩ := rg_yes (rg_ok hr (by rw [f1, f2]; exact h))
  exact ⟨by rw [a, f1], by rw [b, f2], c⟩
theorem rg_empty : rgT [] = [] ∧ rgL [] = [] ∧ rgK [] = false := rg_no (rg_none (by rfl))
theorem gtS_ne {ts ls : List Int} (h : gauB ts ls = true) : gtS ts ls ≠ [] := fun e => by
  obtain ⟨a, -, -⟩ := rg_text h
  rw [e, rg_empty.1] at a
  have := (gau_is h).l1
  rw [← a] at this
  simp at this
theorem gtS_no {ts ls : List Int} (h : gauB ts ls = false) : gtS ts ls = [] := by unfold gtS; rw [if_neg (by rw [h]; decide)]
theorem shA_eq (xs : List Int) (d : Int) : shA xs d = xs.map (· + d) := by unfold shA shF; rw [List.take_length]
theorem shA_back (xs : List Int) (d : Int) : shA (shA xs d) (-d) = xs := by
  rw [shA_eq, shA_eq, List.map_map]
  have : ((fun x : Int => x + -d) ∘ fun x => x + d) = id := by funext x; simp; omega
  rw [this, List.map_id]
theorem sh_zero {ts ls : List Int} {a b : Int} (h : shC ts ls a b = 0) : gauB ts ls = true ∧ (inB a (-1000000) 1000000 && inB b (-2000) 2000) = true ∧ gauB (shA ts a) (shA ls b) = true := by
  cases h1 : gauB ts ls with
  | false => have := sh_bad (a := a) (b := b) h1; omega
  | true =>
    cases h2 : (inB a (-1000000) 1000000 && inB b (-2000) 2000) with
    | false => have := sh_range h1 h2; omega
    | true =>
      cases h3 : gauB (shA ts a) (shA ls b) with
      | false => have := sh_lim h1 h2 h3; omega
      | true => exact ⟨rfl, rfl, rfl⟩
theorem inB_neg {x m : Int} (h : inB x (-m) m = true) : inB (-x) (-m) m = true := by
  simp only [inB, Bool.and_eq_true, decide_eq_true_eq] at h ⊢
  omega
theorem sh_back {ts ls : List Int} {a b : Int} (h : shC ts ls a b = 0) : (gauB ts ls = true ∧ (-1000000 ≤ a ∧ a ≤ 1000000) ∧ (-2000 ≤ b ∧ b ≤ 2000)) ∧ shC (shT ts ls a b) (shL ts ls a b) (-a) (-b) = 0 ∧ shT (shT ts ls a b) (shL ts ls a b) (-a) (-b) = ts ∧ shL (shT ts ls a b) (shL ts ls a b) (-a) (-b) = ls := by
  obtain ⟨h1, h2, h3⟩ := sh_zero h
  obtain ⟨-, e1, e2⟩ := sh_ok h1 h2 h3
  have h4 := h2
  rw [Bool.and_eq_true] at h4
  have b1 := inB_bd h4.1; have b2 := inB_bd h4.2
  have h5 : (inB (-a) (-1000000) 1000000 && inB (-b) (-2000) 2000) = true := by rw [inB_neg h4.1, inB_neg h4.2]; rfl
  obtain ⟨f0, f1, f2⟩ := sh_ok (ts := shA ts a) (ls := shA ls b) (a := -a) (b := -b) h3 h5 (by rw [shA_back, shA_back]; exact h1)
  refine ⟨⟨h1, by omega, by omega⟩, ?_, ?_, ?_⟩
  · rw [e1, e2]; exact f0
  · rw [e1, e2, f1, shA_back]
  · rw [e1, e2, f2, shA_back]
end

section
set_option linter.unusedSimpArgs false
set_option linter.unusedVariables false
open Go.RowKit

set_option maxRecDepth 100000 in
set_option maxHeartbeats 8000000 in
theorem lawGauges_any (A : Option Addr) (c : Nat) (xs : List Int) (w : World) (ht : RdW w) (h : BytesAt w A c xs) :
    Calls Tryd.prog 7 #[.slice A xs.length c] w fun e w' => e = .returned (.bool true) ∧ Below w.heap.size w w' := by
  have hn := Nat.le_trans h.1 h.2.1
  have H := Lib.hid h; have TB := Lib.hid ht; clear h ht
  by_cases hbig : (4096 : Int) < xs.length
  · go_enter Tryd.func7, Tryd.ntmps7
    go_wp2_with (go_at_call 27; refine (big_any _ _ _ _ hn).mono ?_; rintro e w' ⟨rfl, rfl⟩)
    go_ret
    exact ⟨rfl, Below.refl _ _⟩
  · go_enter Tryd.func7, Tryd.ntmps7
    go_wp2_with (go_at_call 27; refine (big_any _ _ _ _ hn).mono ?_; rintro e w' ⟨rfl, rfl⟩)
    refine (drawShiftGauge_any A c xs _ H.out).mono ?_
    rintro e w3 ⟨⟨A1, c1, A2, c2, ts, ls, a, b, rfl, p1, l9, m9⟩, hb3⟩
    have P := Lib.hid p1.at
    have HX := Lib.hid (H.out.below hb3 (Nat.le_refl _))
    have TB := Lib.hid (TB.out.below hb3 (Nat.le_refl _))
    have B3 := Lib.hid hb3; clear p1 hb3 H
    by_cases hp : gauB ts ls = true
    · by_cases hc : shC ts ls a b = 0
      · obtain ⟨t1, t2, t3⟩ := rg_text hp
        have hne := gtS_ne hp
        have hlen := gtS_len ts ls
        obtain ⟨T, hT⟩ : ∃ T, T = gtS ts ls := ⟨_, rfl⟩
        rw [← hT] at t1 t2 t3 hne hlen
        have GI := Lib.hid (show ∀ W B1 d1 B2 d2, TabW W → ProfAt W B1 d1 B2 d2 ts ls → Calls Tryd.prog 12 #[profV B1 ts.length d1 B2 ls.length d2] W fun e w' => e = .returned (strL T) ∧ Below W.heap.size W w' from fun W B1 d1 B2 d2 ht h => by have q := implGaugeText_any B1 B2 d1 d2 ts ls W ht h; rw [← hT] at q; exact q)
        have GS := Lib.hid (show ∀ W B1 d1 B2 d2, ProfAt W B1 d1 B2 d2 ts ls → Calls Tryd.prog 10 #[profV B1 ts.length d1 B2 ls.length d2] W fun e w' => e = .returned (strL T) ∧ Below W.heap.size W w' from fun W B1 d1 B2 d2 h => by have q := specGaugeText_any B1 B2 d1 d2 ts ls W h; rw [← hT] at q; exact q)
        have RT := Lib.hid (show ∀ W, RdW W → Calls Tryd.prog 20 #[strL T] W fun e w' => (∃ B1 d1 B2 d2, e = .returned (.tuple #[profV B1 (List.length ts) d1 B2 (List.length ls) d2, .bool true]) ∧ ResP w' W.heap.size w'.heap.size B1 d1 B2 d2 ts ls) ∧ Below W.heap.size W w' from fun W ht => by have q := implReadGauge_any T W (by omega) ht; rw [t1, t2, t3] at q; exact q)
        have IG := Lib.hid (show ∀ W B1 d1 B2 d2, ProfAt W B1 d1 B2 d2 ts ls → Calls Tryd.prog 33 #[profV B1 ts.length d1 B2 ls.length d2] W fun e w' => e = .returned (.bool true) ∧ Below W.heap.size W w' from fun W B1 d1 B2 d2 h => by have q := implIsGauge_any B1 B2 d1 d2 ts ls W h; rw [hp] at q; exact q)
        obtain ⟨⟨-, ba, bb⟩, s1, s2, s3⟩ := sh_back hc
        have SI := Lib.hid (show ∀ W B1 d1 B2 d2, ProfAt W B1 d1 B2 d2 ts ls → Calls Tryd.prog 29 #[profV B1 ts.length d1 B2 ls.length d2, .int .i64 a, .int .i64 b] W fun e w' => (∃ B1 d1 B2 d2, e = .returned (.tuple #[profV B1 (shT ts ls a b).length d1 B2 (shL ts ls a b).length d2, .int .i64 0]) ∧ ResP w' W.heap.size w'.heap.size B1 d1 B2 d2 (shT ts ls a b) (shL ts ls a b)) ∧ Below W.heap.size W w' from fun W B1 d1 B2 d2 h => by have q := implShift_any B1 B2 d1 d2 ts ls a b W h; rw [hc] at q; exact q)
        have SS := Lib.hid (show ∀ W B1 d1 B2 d2, ProfAt W B1 d1 B2 d2 ts ls → Calls Tryd.prog 30 #[profV B1 ts.length d1 B2 ls.length d2, .int .i64 a, .int .i64 b] W fun e w' => (∃ B1 d1 B2 d2, e = .returned (.tuple #[profV B1 (shT ts ls a b).length d1 B2 (shL ts ls a b).length d2, .int .i64 0]) ∧ ResP w' W.heap.size w'.heap.size B1 d1 B2 d2 (shT ts ls a b) (shL ts ls a b)) ∧ Below W.heap.size W w' from fun W B1 d1 B2 d2 h => by have q := specShift_any B1 B2 d1 d2 ts ls a b W h; rw [hc] at q; exact q)
        have SB := Lib.hid (show ∀ W B1 d1 B2 d2, ProfAt W B1 d1 B2 d2 (shT ts ls a b) (shL ts ls a b) → Calls Tryd.prog 29 #[profV B1 (shT ts ls a b).length d1 B2 (shL ts ls a b).length d2, .int .i64 (-a), .int .i64 (-b)] W fun e w' => (∃ B1 d1 B2 d2, e = .returned (.tuple #[profV B1 ts.length d1 B2 ls.length d2, .int .i64 0]) ∧ ResP w' W.heap.size w'.heap.size B1 d1 B2 d2 ts ls) ∧ Below W.heap.size W w' from fun W B1 d1 B2 d2 h => by have q := implShift_any B1 B2 d1 d2 _ _ (-a) (-b) W h; rw [s1, s2, s3] at q; exact q)
        clear s1 s2 s3
        obtain ⟨us, hus⟩ : ∃ x, x = shT ts ls a b := ⟨_, rfl⟩
        obtain ⟨vs, hvs⟩ : ∃ x, x = shL ts ls a b := ⟨_, rfl⟩
        rw [← hus, ← hvs] at SI SS SB
        clear hus hvs hc hp t1 t2 t3 hT
        have hb1 : (T == []) = false := beq_eq_false_iff_ne.2 hne
        have hb2 : (T != []) = true := by simp [hb1, bne]
        have hb3 : (T = []) = False := eq_false hne
        clear hne hlen
        go_wp2_with fail
        refine (SI.out _ _ _ _ _ (P.out.below (B := w3.heap.size) (by first | exact Below.refl _ _ | (go_grown; done) | exact bdrewN (by go_grown) _) (Nat.le_refl _))).mono ?_
        rintro e w4 ⟨⟨D4, d4, D4x, d4x, rfl, rr⟩, hb4⟩
        have P := Lib.hid (((P.out).below (B := w3.heap.size) (by first | exact Below.refl _ _ | (go_grown; done) | exact bdrewN (by go_grown) _) (Nat.le_refl _)).below hb4 (Nat.le_refl _))
        have HX := Lib.hid (((HX.out).below (B := w3.heap.size) (by first | exact Below.refl _ _ | (go_grown; done) | exact bdrewN (by go_grown) _) (Nat.le_refl _)).below hb4 (Nat.le_refl _))
        have TB := Lib.hid (((TB.out).below (B := w3.heap.size) (by first | exact Below.refl _ _ | (go_grown; done) | exact bdrewN (by go_grown) _) (Nat.le_refl _)).below hb4 (Nat.le_refl _))
        have X := Lib.hid (rr.at)
        obtain ⟨B4, hz4, q4, s4, t4, x4, y4, z4⟩ := bkeep (w := w3) [w3.heap.size] (by first | (simp; done) | (simp; omega)) (by first | (go_grown; done) | exact bdrewN (by go_grown) _) hb4; (try simp at hz4); clear hb4
        clear rr
        go_wp2_with fail
        refine (SS.out _ _ _ _ _ (P.out.below (B := w4.heap.size) (by first | exact Below.refl _ _ | (go_grown; done) | exact bdrewN (by go_grown) _) (Nat.le_refl _))).mono ?_
        rintro e w5 ⟨⟨D5, d5, D5x, d5x, rfl, rr⟩, hb5⟩
        have P := Lib.hid (((P.out).below (B := w4.heap.size) (by first | exact Below.refl _ _ | (go_grown; done) | exact bdrewN (by go_grown) _) (Nat.le_refl _)).below hb5 (Nat.le_refl _))
        have HX := Lib.hid (((HX.out).below (B := w4.heap.size) (by first | exact Below.refl _ _ | (go_grown; done) | exact bdrewN (by go_grown) _) (Nat.le_refl _)).below hb5 (Nat.le_refl _))
        have TB := Lib.hid (((TB.out).below (B := w4.heap.size) (by first | exact Below.refl _ _ | (go_grown; done) | exact bdrewN (by go_grown) _) (Nat.le_refl _)).below hb5 (Nat.le_refl _))
        have X := Lib.hid (((X.out).below (B := w4.heap.size) (by first | exact Below.refl _ _ | (go_grown; done) | exact bdrewN (by go_grown) _) (Nat.le_refl _)).below hb5 (Nat.le_refl _))
        have M := Lib.hid (rr.at)
        obtain ⟨B5, hz5, q5, s5, t5, x5, y5, z5⟩ := bkeep (w := w3) [w3.heap.size, w4.heap.size] (by first | (simp; done) | (simp; omega)) (by first | (go_grown; done) | exact bdrewN (by go_grown) _) hb5; (try simp at hz5); clear hb5
        clear rr
        go_wp2_with fail
        refine (GI.out _ _ _ _ _ ((TB.out.below (B := w5.heap.size) (by first | exact Below.refl _ _ | (go_grown; done) | exact bdrewN (by go_grown) _) (Nat.le_refl _))).tab (P.out.below (B := w5.heap.size) (by first | exact Below.refl _ _ | (go_grown; done) | exact bdrewN (by go_grown) _) (Nat.le_refl _))).mono ?_
        rintro e w6 ⟨rfl, hb6⟩
        have P := Lib.hid (((P.out).below (B := w5.heap.size) (by first | exact Below.refl _ _ | (go_grown; done) | exact bdrewN (by go_grown) _) (Nat.le_refl _)).below hb6 (Nat.le_refl _))
        have HX := Lib.hid (((HX.out).below (B := w5.heap.size) (by first | exact Below.refl _ _ | (go_grown; done) | exact bdrewN (by go_grown) _) (Nat.le_refl _)).below hb6 (Nat.le_refl _))
        have TB := Lib.hid (((TB.out).below (B := w5.heap.size) (by first | exact Below.refl _ _ | (go_grown; done) | exact bdrewN (by go_grown) _) (Nat.le_refl _)).below hb6 (Nat.le_refl _))
        have X := Lib.hid (((X.out).below (B := w5.heap.size) (by first | exact Below.refl _ _ | (go_grown; done) | exact bdrewN (by go_grown) _) (Nat.le_refl _)).below hb6 (Nat.le_refl _))
        have M := Lib.hid (((M.out).below (B := w5.heap.size) (by first | exact Below.refl _ _ | (go_grown; done) | exact bdrewN (by go_grown) _) (Nat.le_refl _)).below hb6 (Nat.le_refl _))
        obtain ⟨B6, hz6, q6, s6, t6, x6, y6, z6⟩ := bkeep (w := w3) [w3.heap.size, w4.heap.size, w5.heap.size] (by first | (simp; done) | (simp; omega)) (by first | (go_grown; done) | exact bdrewN (by go_grown) _) hb6; (try simp at hz6); clear hb6
        go_wp2_with fail
        refine (RT.out _ (TB.out.below (B := w6.heap.size) (by first | exact Below.refl _ _ | (go_grown; done) | exact bdrewN (by go_grown) _) (Nat.le_refl _))).mono ?_
        rintro e w7 ⟨⟨D7, d7, D7x, d7x, rfl, rr⟩, hb7⟩
        have P := Lib.hid (((P.out).below (B := w6.heap.size) (by first | exact Below.refl _ _ | (go_grown; done) | exact bdrewN (by go_grown) _) (Nat.le_refl _)).below hb7 (Nat.le_refl _))
        have HX := Lib.hid (((HX.out).below (B := w6.heap.size) (by first | exact Below.refl _ _ | (go_grown; done) | exact bdrewN (by go_grown) _) (Nat.le_refl _)).below hb7 (Nat.le_refl _))
        have TB := Lib.hid (((TB.out).below (B := w6.heap.size) (by first | exact Below.refl _ _ | (go_grown; done) | exact bdrewN (by go_grown) _) (Nat.le_refl _)).below hb7 (Nat.le_refl _))
        have X := Lib.hid (((X.out).below (B := w6.heap.size) (by first | exact Below.refl _ _ | (go_grown; done) | exact bdrewN (by go_grown) _) (Nat.le_refl _)).below hb7 (Nat.le_refl _))
        have M := Lib.hid (((M.out).below (B := w6.heap.size) (by first | exact Below.refl _ _ | (go_grown; done) | exact bdrewN (by go_grown) _) (Nat.le_refl _)).below hb7 (Nat.le_refl _))
        have R := Lib.hid (rr.at)
        obtain ⟨B7, hz7, q7, s7, t7, x7, y7, z7⟩ := bkeep (w := w3) [w3.heap.size, w4.heap.size, w5.heap.size] (by first | (simp; done) | (simp; omega)) (by first | (go_grown; done) | exact bdrewN (by go_grown) _) hb7; (try simp at hz7); clear hb7
        clear rr
        go_wp2_with fail
        refine (drawReadGauge_any A c xs _ (HX.out.below (B := w7.heap.size) (by first | exact Below.refl _ _ | (go_grown; done) | exact bdrewN (by go_grown) _) (Nat.le_refl _))).mono ?_
        rintro e w8 ⟨⟨m, rfl, hm⟩, hb8⟩
        have P := Lib.hid (((P.out).below (B := w7.heap.size) (by first | exact Below.refl _ _ | (go_grown; done) | exact bdrewN (by go_grown) _) (Nat.le_refl _)).below hb8 (Nat.le_refl _))
        have HX := Lib.hid (((HX.out).below (B := w7.heap.size) (by first | exact Below.refl _ _ | (go_grown; done) | exact bdrewN (by go_grown) _) (Nat.le_refl _)).below hb8 (Nat.le_refl _))
        have TB := Lib.hid (((TB.out).below (B := w7.heap.size) (by first | exact Below.refl _ _ | (go_grown; done) | exact bdrewN (by go_grown) _) (Nat.le_refl _)).below hb8 (Nat.le_refl _))
        have X := Lib.hid (((X.out).below (B := w7.heap.size) (by first | exact Below.refl _ _ | (go_grown; done) | exact bdrewN (by go_grown) _) (Nat.le_refl _)).below hb8 (Nat.le_refl _))
        have M := Lib.hid (((M.out).below (B := w7.heap.size) (by first | exact Below.refl _ _ | (go_grown; done) | exact bdrewN (by go_grown) _) (Nat.le_refl _)).below hb8 (Nat.le_refl _))
        have R := Lib.hid (((R.out).below (B := w7.heap.size) (by first | exact Below.refl _ _ | (go_grown; done) | exact bdrewN (by go_grown) _) (Nat.le_refl _)).below hb8 (Nat.le_refl _))
        obtain ⟨B8, hz8, q8, s8, t8, x8, y8, z8⟩ := bkeep (w := w3) [w3.heap.size, w4.heap.size, w5.heap.size, w7.heap.size] (by first | (simp; done) | (simp; omega)) (by first | (go_grown; done) | exact bdrewN (by go_grown) _) hb8; (try simp at hz8); clear hb8
        go_wp2_with fail
        refine (implReadGauge_any m _ (by omega) (TB.out.below (B := w8.heap.size) (by first | exact Below.refl _ _ | (go_grown; done) | exact bdrewN (by go_grown) _) (Nat.le_refl _))).mono ?_
        rintro e w9 ⟨⟨D9, d9, D9x, d9x, rfl, rr⟩, hb9⟩
        have P := Lib.hid (((P.out).below (B := w8.heap.size) (by first | exact Below.refl _ _ | (go_grown; done) | exact bdrewN (by go_grown) _) (Nat.le_refl _)).below hb9 (Nat.le_refl _))
        have TB := Lib.hid (((TB.out).below (B := w8.heap.size) (by first | exact Below.refl _ _ | (go_grown; done) | exact bdrewN (by go_grown) _) (Nat.le_refl _)).below hb9 (Nat.le_refl _))
        have X := Lib.hid (((X.out).below (B := w8.heap.size) (by first | exact Below.refl _ _ | (go_grown; done) | exact bdrewN (by go_grown) _) (Nat.le_refl _)).below hb9 (Nat.le_refl _))
        have M := Lib.hid (((M.out).below (B := w8.heap.size) (by first | exact Below.refl _ _ | (go_grown; done) | exact bdrewN (by go_grown) _) (Nat.le_refl _)).below hb9 (Nat.le_refl _))
        have R := Lib.hid (((R.out).below (B := w8.heap.size) (by first | exact Below.refl _ _ | (go_grown; done) | exact bdrewN (by go_grown) _) (Nat.le_refl _)).below hb9 (Nat.le_refl _))
        have Y := Lib.hid (rr.at)
        obtain ⟨B9, hz9, q9, s9, t9, x9, y9, z9⟩ := bkeep (w := w3) [w3.heap.size, w4.heap.size, w5.heap.size, w7.heap.size] (by first | (simp; done) | (simp; omega)) (by first | (go_grown; done) | exact bdrewN (by go_grown) _) hb9; (try simp at hz9); clear hb9
        clear rr
        have YI := Lib.hid True.intro
        go_wp2_with fail
        refine (specReadGauge_any m _ (by omega)).mono ?_
        rintro e w10 ⟨⟨D10, d10, D10x, d10x, rfl, rr⟩, hb10⟩
        have P := Lib.hid (((P.out).below (B := w9.heap.size) (by first | exact Below.refl _ _ | (go_grown; done) | exact bdrewN (by go_grown) _) (Nat.le_refl _)).below hb10 (Nat.le_refl _))
        have TB := Lib.hid (((TB.out).below (B := w9.heap.size) (by first | exact Below.refl _ _ | (go_grown; done) | exact bdrewN (by go_grown) _) (Nat.le_refl _)).below hb10 (Nat.le_refl _))
        have X := Lib.hid (((X.out).below (B := w9.heap.size) (by first | exact Below.refl _ _ | (go_grown; done) | exact bdrewN (by go_grown) _) (Nat.le_refl _)).below hb10 (Nat.le_refl _))
        have M := Lib.hid (((M.out).below (B := w9.heap.size) (by first | exact Below.refl _ _ | (go_grown; done) | exact bdrewN (by go_grown) _) (Nat.le_refl _)).below hb10 (Nat.le_refl _))
        have R := Lib.hid (((R.out).below (B := w9.heap.size) (by first | exact Below.refl _ _ | (go_grown; done) | exact bdrewN (by go_grown) _) (Nat.le_refl _)).below hb10 (Nat.le_refl _))
        have Y := Lib.hid (((Y.out).below (B := w9.heap.size) (by first | exact Below.refl _ _ | (go_grown; done) | exact bdrewN (by go_grown) _) (Nat.le_refl _)).below hb10 (Nat.le_refl _))
        have Z := Lib.hid (rr.at)
        obtain ⟨B10, hz10, q10, s10, t10, x10, y10, z10⟩ := bkeep (w := w3) [w3.heap.size, w4.heap.size, w5.heap.size, w7.heap.size, w9.heap.size] (by first | (simp; done) | (simp; omega)) (by first | (go_grown; done) | exact bdrewN (by go_grown) _) hb10; (try simp at hz10); clear hb10
        clear rr
        go_wp2_with fail
        refine (likeGauges9_same _ _ _ _ _ _ _ _ _ _ _ (X.out.below (B := w10.heap.size) (by first | exact Below.refl _ _ | (go_grown; done) | exact bdrewN (by go_grown) _) (Nat.le_refl _)) (M.out.below (B := w10.heap.size) (by first | exact Below.refl _ _ | (go_grown; done) | exact bdrewN (by go_grown) _) (Nat.le_refl _))).mono ?_
        rintro e w11 ⟨rfl, hb11⟩
        have P := Lib.hid (((P.out).below (B := w10.heap.size) (by first | exact Below.refl _ _ | (go_grown; done) | exact bdrewN (by go_grown) _) (Nat.le_refl _)).below hb11 (Nat.le_refl _))
        have TB := Lib.hid (((TB.out).below (B := w10.heap.size) (by first | exact Below.refl _ _ | (go_grown; done) | exact bdrewN (by go_grown) _) (Nat.le_refl _)).below hb11 (Nat.le_refl _))
        have X := Lib.hid (((X.out).below (B := w10.heap.size) (by first | exact Below.refl _ _ | (go_grown; done) | exact bdrewN (by go_grown) _) (Nat.le_refl _)).below hb11 (Nat.le_refl _))
        have M := Lib.hid (((M.out).below (B := w10.heap.size) (by first | exact Below.refl _ _ | (go_grown; done) | exact bdrewN (by go_grown) _) (Nat.le_refl _)).below hb11 (Nat.le_refl _))
        have R := Lib.hid (((R.out).below (B := w10.heap.size) (by first | exact Below.refl _ _ | (go_grown; done) | exact bdrewN (by go_grown) _) (Nat.le_refl _)).below hb11 (Nat.le_refl _))
        have Y := Lib.hid (((Y.out).below (B := w10.heap.size) (by first | exact Below.refl _ _ | (go_grown; done) | exact bdrewN (by go_grown) _) (Nat.le_refl _)).below hb11 (Nat.le_refl _))
        have Z := Lib.hid (((Z.out).below (B := w10.heap.size) (by first | exact Below.refl _ _ | (go_grown; done) | exact bdrewN (by go_grown) _) (Nat.le_refl _)).below hb11 (Nat.le_refl _))
        obtain ⟨B11, hz11, q11, s11, t11, x11, y11, z11⟩ := bkeep (w := w3) [w3.heap.size, w4.heap.size, w5.heap.size, w7.heap.size, w9.heap.size, w10.heap.size] (by first | (simp; done) | (simp; omega)) (by first | (go_grown; done) | exact bdrewN (by go_grown) _) hb11; (try simp at hz11); clear hb11
        go_wp2_with fail
        refine (GS.out _ _ _ _ _ (P.out.below (B := w11.heap.size) (by first | exact Below.refl _ _ | (go_grown; done) | exact bdrewN (by go_grown) _) (Nat.le_refl _))).mono ?_
        rintro e w12 ⟨rfl, hb12⟩
        have P := Lib.hid (((P.out).below (B := w11.heap.size) (by first | exact Below.refl _ _ | (go_grown; done) | exact bdrewN (by go_grown) _) (Nat.le_refl _)).below hb12 (Nat.le_refl _))
        have TB := Lib.hid (((TB.out).below (B := w11.heap.size) (by first | exact Below.refl _ _ | (go_grown; done) | exact bdrewN (by go_grown) _) (Nat.le_refl _)).below hb12 (Nat.le_refl _))
        have X := Lib.hid (((X.out).below (B := w11.heap.size) (by first | exact Below.refl _ _ | (go_grown; done) | exact bdrewN (by go_grown) _) (Nat.le_refl _)).below hb12 (Nat.le_refl _))
        have R := Lib.hid (((R.out).below (B := w11.heap.size) (by first | exact Below.refl _ _ | (go_grown; done) | exact bdrewN (by go_grown) _) (Nat.le_refl _)).below hb12 (Nat.le_refl _))
        have Y := Lib.hid (((Y.out).below (B := w11.heap.size) (by first | exact Below.refl _ _ | (go_grown; done) | exact bdrewN (by go_grown) _) (Nat.le_refl _)).below hb12 (Nat.le_refl _))
        have Z := Lib.hid (((Z.out).below (B := w11.heap.size) (by first | exact Below.refl _ _ | (go_grown; done) | exact bdrewN (by go_grown) _) (Nat.le_refl _)).below hb12 (Nat.le_refl _))
        obtain ⟨B12, hz12, q12, s12, t12, x12, y12, z12⟩ := bkeep (w := w3) [w3.heap.size, w4.heap.size, w5.heap.size, w7.heap.size, w9.heap.size, w10.heap.size] (by first | (simp; done) | (simp; omega)) (by first | (go_grown; done) | exact bdrewN (by go_grown) _) hb12; (try simp at hz12); clear hb12
        go_wp2_with fail
        refine (likeGauges9_same _ _ _ _ _ _ _ _ _ _ _ (R.out.below (B := w12.heap.size) (by first | exact Below.refl _ _ | (go_grown; done) | exact bdrewN (by go_grown) _) (Nat.le_refl _)) (P.out.below (B := w12.heap.size) (by first | exact Below.refl _ _ | (go_grown; done) | exact bdrewN (by go_grown) _) (Nat.le_refl _))).mono ?_
        rintro e w13 ⟨rfl, hb13⟩
        have P := Lib.hid (((P.out).below (B := w12.heap.size) (by first | exact Below.refl _ _ | (go_grown; done) | exact bdrewN (by go_grown) _) (Nat.le_refl _)).below hb13 (Nat.le_refl _))
        have TB := Lib.hid (((TB.out).below (B := w12.heap.size) (by first | exact Below.refl _ _ | (go_grown; done) | exact bdrewN (by go_grown) _) (Nat.le_refl _)).below hb13 (Nat.le_refl _))
        have X := Lib.hid (((X.out).below (B := w12.heap.size) (by first | exact Below.refl _ _ | (go_grown; done) | exact bdrewN (by go_grown) _) (Nat.le_refl _)).below hb13 (Nat.le_refl _))
        have R := Lib.hid (((R.out).below (B := w12.heap.size) (by first | exact Below.refl _ _ | (go_grown; done) | exact bdrewN (by go_grown) _) (Nat.le_refl _)).below hb13 (Nat.le_refl _))
        have Y := Lib.hid (((Y.out).below (B := w12.heap.size) (by first | exact Below.refl _ _ | (go_grown; done) | exact bdrewN (by go_grown) _) (Nat.le_refl _)).below hb13 (Nat.le_refl _))
        have Z := Lib.hid (((Z.out).below (B := w12.heap.size) (by first | exact Below.refl _ _ | (go_grown; done) | exact bdrewN (by go_grown) _) (Nat.le_refl _)).below hb13 (Nat.le_refl _))
        obtain ⟨B13, hz13, q13, s13, t13, x13, y13, z13⟩ := bkeep (w := w3) [w3.heap.size, w4.heap.size, w5.heap.size, w7.heap.size, w9.heap.size, w10.heap.size] (by first | (simp; done) | (simp; omega)) (by first | (go_grown; done) | exact bdrewN (by go_grown) _) hb13; (try simp at hz13); clear hb13
        go_wp2_with fail
        refine (likeGauges9_same _ _ _ _ _ _ _ _ _ _ _ (Y.out.below (B := w13.heap.size) (by first | exact Below.refl _ _ | (go_grown; done) | exact bdrewN (by go_grown) _) (Nat.le_refl _)) (Z.out.below (B := w13.heap.size) (by first | exact Below.refl _ _ | (go_grown; done) | exact bdrewN (by go_grown) _) (Nat.le_refl _))).mono ?_
        rintro e w14 ⟨rfl, hb14⟩
        have P := Lib.hid (((P.out).below (B := w13.heap.size) (by first | exact Below.refl _ _ | (go_grown; done) | exact bdrewN (by go_grown) _) (Nat.le_refl _)).below hb14 (Nat.le_refl _))
        have TB := Lib.hid (((TB.out).below (B := w13.heap.size) (by first | exact Below.refl _ _ | (go_grown; done) | exact bdrewN (by go_grown) _) (Nat.le_refl _)).below hb14 (Nat.le_refl _))
        have X := Lib.hid (((X.out).below (B := w13.heap.size) (by first | exact Below.refl _ _ | (go_grown; done) | exact bdrewN (by go_grown) _) (Nat.le_refl _)).below hb14 (Nat.le_refl _))
        have Y := Lib.hid (((Y.out).below (B := w13.heap.size) (by first | exact Below.refl _ _ | (go_grown; done) | exact bdrewN (by go_grown) _) (Nat.le_refl _)).below hb14 (Nat.le_refl _))
        have Z := Lib.hid (((Z.out).below (B := w13.heap.size) (by first | exact Below.refl _ _ | (go_grown; done) | exact bdrewN (by go_grown) _) (Nat.le_refl _)).below hb14 (Nat.le_refl _))
        obtain ⟨B14, hz14, q14, s14, t14, x14, y14, z14⟩ := bkeep (w := w3) [w3.heap.size, w4.heap.size, w5.heap.size, w7.heap.size, w9.heap.size, w10.heap.size] (by first | (simp; done) | (simp; omega)) (by first | (go_grown; done) | exact bdrewN (by go_grown) _) hb14; (try simp at hz14); clear hb14
        go_wp2_with fail
        refine (IG.out _ _ _ _ _ (P.out.below (B := w14.heap.size) (by first | exact Below.refl _ _ | (go_grown; done) | exact bdrewN (by go_grown) _) (Nat.le_refl _))).mono ?_
        rintro e w15 ⟨rfl, hb15⟩
        have P := Lib.hid (((P.out).below (B := w14.heap.size) (by first | exact Below.refl _ _ | (go_grown; done) | exact bdrewN (by go_grown) _) (Nat.le_refl _)).below hb15 (Nat.le_refl _))
        have TB := Lib.hid (((TB.out).below (B := w14.heap.size) (by first | exact Below.refl _ _ | (go_grown; done) | exact bdrewN (by go_grown) _) (Nat.le_refl _)).below hb15 (Nat.le_refl _))
        have X := Lib.hid (((X.out).below (B := w14.heap.size) (by first | exact Below.refl _ _ | (go_grown; done) | exact bdrewN (by go_grown) _) (Nat.le_refl _)).below hb15 (Nat.le_refl _))
        obtain ⟨B15, hz15, q15, s15, t15, x15, y15, z15⟩ := bkeep (w := w3) [w3.heap.size, w4.heap.size, w5.heap.size, w7.heap.size, w9.heap.size, w10.heap.size] (by first | (simp; done) | (simp; omega)) (by first | (go_grown; done) | exact bdrewN (by go_grown) _) hb15; (try simp at hz15); clear hb15
        have W1 : IntKind.i64.wrap (-a) = -a := IntWalk.i64_in _ (by omega)
        have W2 : IntKind.i64.wrap (-b) = -b := IntWalk.i64_in _ (by omega)
        go_wp2_with fail
        refine (SB.out _ _ _ _ _ (X.out.below (B := w15.heap.size) (by first | exact Below.refl _ _ | (go_grown; done) | exact bdrewN (by go_grown) _) (Nat.le_refl _))).mono ?_
        rintro e w16 ⟨⟨D16, d16, D16x, d16x, rfl, rr⟩, hb16⟩
        have P := Lib.hid (((P.out).below (B := w15.heap.size) (by first | exact Below.refl _ _ | (go_grown; done) | exact bdrewN (by go_grown) _) (Nat.le_refl _)).below hb16 (Nat.le_refl _))
        have TB := Lib.hid (((TB.out).below (B := w15.heap.size) (by first | exact Below.refl _ _ | (go_grown; done) | exact bdrewN (by go_grown) _) (Nat.le_refl _)).below hb16 (Nat.le_refl _))
        have X := Lib.hid (((X.out).below (B := w15.heap.size) (by first | exact Below.refl _ _ | (go_grown; done) | exact bdrewN (by go_grown) _) (Nat.le_refl _)).below hb16 (Nat.le_refl _))
        have Q := Lib.hid (rr.at)
        obtain ⟨B16, hz16, q16, s16, t16, x16, y16, z16⟩ := bkeep (w := w3) [w3.heap.size, w4.heap.size, w5.heap.size, w7.heap.size, w9.heap.size, w10.heap.size] (by first | (simp; done) | (simp; omega)) (by first | (go_grown; done) | exact bdrewN (by go_grown) _) hb16; (try simp at hz16); clear hb16
        clear rr
        go_wp2_with fail
        refine (likeGauges9_same _ _ _ _ _ _ _ _ _ _ _ (Q.out.below (B := w16.heap.size) (by first | exact Below.refl _ _ | (go_grown; done) | exact bdrewN (by go_grown) _) (Nat.le_refl _)) (P.out.below (B := w16.heap.size) (by first | exact Below.refl _ _ | (go_grown; done) | exact bdrewN (by go_grown) _) (Nat.le_refl _))).mono ?_
        rintro e w17 ⟨rfl, hb17⟩
        have P := Lib.hid (((P.out).below (B := w16.heap.size) (by first | exact Below.refl _ _ | (go_grown; done) | exact bdrewN (by go_grown) _) (Nat.le_refl _)).below hb17 (Nat.le_refl _))
        have TB := Lib.hid (((TB.out).below (B := w16.heap.size) (by first | exact Below.refl _ _ | (go_grown; done) | exact bdrewN (by go_grown) _) (Nat.le_refl _)).below hb17 (Nat.le_refl _))
        have X := Lib.hid (((X.out).below (B := w16.heap.size) (by first | exact Below.refl _ _ | (go_grown; done) | exact bdrewN (by go_grown) _) (Nat.le_refl _)).below hb17 (Nat.le_refl _))
        have Q := Lib.hid (((Q.out).below (B := w16.heap.size) (by first | exact Below.refl _ _ | (go_grown; done) | exact bdrewN (by go_grown) _) (Nat.le_refl _)).below hb17 (Nat.le_refl _))
        obtain ⟨B17, hz17, q17, s17, t17, x17, y17, z17⟩ := bkeep (w := w3) [w3.heap.size, w4.heap.size, w5.heap.size, w7.heap.size, w9.heap.size, w10.heap.size, w16.heap.size] (by first | (simp; done) | (simp; omega)) (by first | (go_grown; done) | exact bdrewN (by go_grown) _) hb17; (try simp at hz17); clear hb17
        go_wp2_with fail
        go_ret
        exact ⟨rfl, B3.out.trans (Below.mono (show Below w3.heap.size w3 _ by first | exact B17 | (go_grown; done) | exact bdrewN B17 _ | exact bdrewN (by go_grown) _ | (go_grown <;> exact bdrewN B17 _)) B3.out.size)⟩
      · obtain ⟨t1, t2, t3⟩ := rg_text hp
        have hne := gtS_ne hp
        have hlen := gtS_len ts ls
        obtain ⟨T, hT⟩ : ∃ T, T = gtS ts ls := ⟨_, rfl⟩
        rw [← hT] at t1 t2 t3 hne hlen
        have GI := Lib.hid (show ∀ W B1 d1 B2 d2, TabW W → ProfAt W B1 d1 B2 d2 ts ls → Calls Tryd.prog 12 #[profV B1 ts.length d1 B2 ls.length d2] W fun e w' => e = .returned (strL T) ∧ Below W.heap.size W w' from fun W B1 d1 B2 d2 ht h => by have q := implGaugeText_any B1 B2 d1 d2 ts ls W ht h; rw [← hT] at q; exact q)
        have GS := Lib.hid (show ∀ W B1 d1 B2 d2, ProfAt W B1 d1 B2 d2 ts ls → Calls Tryd.prog 10 #[profV B1 ts.length d1 B2 ls.length d2] W fun e w' => e = .returned (strL T) ∧ Below W.heap.size W w' from fun W B1 d1 B2 d2 h => by have q := specGaugeText_any B1 B2 d1 d2 ts ls W h; rw [← hT] at q; exact q)
        have RT := Lib.hid (show ∀ W, RdW W → Calls Tryd.prog 20 #[strL T] W fun e w' => (∃ B1 d1 B2 d2, e = .returned (.tuple #[profV B1 (List.length ts) d1 B2 (List.length ls) d2, .bool true]) ∧ ResP w' W.heap.size w'.heap.size B1 d1 B2 d2 ts ls) ∧ Below W.heap.size W w' from fun W ht => by have q := implReadGauge_any T W (by omega) ht; rw [t1, t2, t3] at q; exact q)
        have IG := Lib.hid (show ∀ W B1 d1 B2 d2, ProfAt W B1 d1 B2 d2 ts ls → Calls Tryd.prog 33 #[profV B1 ts.length d1 B2 ls.length d2] W fun e w' => e = .returned (.bool true) ∧ Below W.heap.size W w' from fun W B1 d1 B2 d2 h => by have q := implIsGauge_any B1 B2 d1 d2 ts ls W h; rw [hp] at q; exact q)
        obtain ⟨E, hE⟩ : ∃ E, E = shC ts ls a b := ⟨_, rfl⟩
        rw [← hE] at hc
        have hc2 : (E != 0) = true := by simpa using hc
        have SI := Lib.hid (show ∀ W B1 d1 B2 d2, ProfAt W B1 d1 B2 d2 ts ls → Calls Tryd.prog 29 #[profV B1 ts.length d1 B2 ls.length d2, .int .i64 a, .int .i64 b] W fun e w' => (∃ B1 d1 B2 d2, e = .returned (.tuple #[profV B1 (shT ts ls a b).length d1 B2 (shL ts ls a b).length d2, .int .i64 E]) ∧ ResP w' W.heap.size w'.heap.size B1 d1 B2 d2 (shT ts ls a b) (shL ts ls a b)) ∧ Below W.heap.size W w' from fun W B1 d1 B2 d2 h => by have q := implShift_any B1 B2 d1 d2 ts ls a b W h; rw [← hE] at q; exact q)
        have SS := Lib.hid (show ∀ W B1 d1 B2 d2, ProfAt W B1 d1 B2 d2 ts ls → Calls Tryd.prog 30 #[profV B1 ts.length d1 B2 ls.length d2, .int .i64 a, .int .i64 b] W fun e w' => (∃ B1 d1 B2 d2, e = .returned (.tuple #[profV B1 (shT ts ls a b).length d1 B2 (shL ts ls a b).length d2, .int .i64 E]) ∧ ResP w' W.heap.size w'.heap.size B1 d1 B2 d2 (shT ts ls a b) (shL ts ls a b)) ∧ Below W.heap.size W w' from fun W B1 d1 B2 d2 h => by have q := specShift_any B1 B2 d1 d2 ts ls a b W h; rw [← hE] at q; exact q)
        obtain ⟨us, hus⟩ : ∃ x, x = shT ts ls a b := ⟨_, rfl⟩
        obtain ⟨vs, hvs⟩ : ∃ x, x = shL ts ls a b := ⟨_, rfl⟩
        rw [← hus, ← hvs] at SI SS
        clear hus hvs hc hp t1 t2 t3 hT hE
        have hb1 : (T == []) = false := beq_eq_false_iff_ne.2 hne
        have hb2 : (T != []) = true := by simp [hb1, bne]
        have hb3 : (T = []) = False := eq_false hne
        clear hne hlen
        go_wp2_with fail
        refine (SI.out _ _ _ _ _ (P.out.below (B := w3.heap.size) (by first | exact Below.refl _ _ | (go_grown; done) | exact bdrewN (by go_grown) _) (Nat.le_refl _))).mono ?_
        rintro e w4 ⟨⟨D4, d4, D4x, d4x, rfl, rr⟩, hb4⟩
        have P := Lib.hid (((P.out).below (B := w3.heap.size) (by first | exact Below.refl _ _ | (go_grown; done) | exact bdrewN (by go_grown) _) (Nat.le_refl _)).below hb4 (Nat.le_refl _))
        have HX := Lib.hid (((HX.out).below (B := w3.heap.size) (by first | exact Below.refl _ _ | (go_grown; done) | exact bdrewN (by go_grown) _) (Nat.le_refl _)).below hb4 (Nat.le_refl _))
        have TB := Lib.hid (((TB.out).below (B := w3.heap.size) (by first | exact Below.refl _ _ | (go_grown; done) | exact bdrewN (by go_grown) _) (Nat.le_refl _)).below hb4 (Nat.le_refl _))
        have X := Lib.hid (rr.at)
        obtain ⟨B4, hz4, q4, s4, t4, x4, y4, z4⟩ := bkeep (w := w3) [w3.heap.size] (by first | (simp; done) | (simp; omega)) (by first | (go_grown; done) | exact bdrewN (by go_grown) _) hb4; (try simp at hz4); clear hb4
        clear rr
        go_wp2_with fail
        refine (SS.out _ _ _ _ _ (P.out.below (B := w4.heap.size) (by first | exact Below.refl _ _ | (go_grown; done) | exact bdrewN (by go_grown) _) (Nat.le_refl _))).mono ?_
        rintro e w5 ⟨⟨D5, d5, D5x, d5x, rfl, rr⟩, hb5⟩
        have P := Lib.hid (((P.out).below (B := w4.heap.size) (by first | exact Below.refl _ _ | (go_grown; done) | exact bdrewN (by go_grown) _) (Nat.le_refl _)).below hb5 (Nat.le_refl _))
        have HX := Lib.hid (((HX.out).below (B := w4.heap.size) (by first | exact Below.refl _ _ | (go_grown; done) | exact bdrewN (by go_grown) _) (Nat.le_refl _)).below hb5 (Nat.le_refl _))
        have TB := Lib.hid (((TB.out).below (B := w4.heap.size) (by first | exact Below.refl _ _ | (go_grown; done) | exact bdrewN (by go_grown) _) (Nat.le_refl _)).below hb5 (Nat.le_refl _))
        have X := Lib.hid (((X.out).below (B := w4.heap.size) (by first | exact Below.refl _ _ | (go_grown; done) | exact bdrewN (by go_grown) _) (Nat.le_refl _)).below hb5 (Nat.le_refl _))
        have M := Lib.hid (rr.at)
        obtain ⟨B5, hz5, q5, s5, t5, x5, y5, z5⟩ := bkeep (w := w3) [w3.heap.size, w4.heap.size] (by first | (simp; done) | (simp; omega)) (by first | (go_grown; done) | exact bdrewN (by go_grown) _) hb5; (try simp at hz5); clear hb5
        clear rr
        go_wp2_with fail
        refine (GI.out _ _ _ _ _ ((TB.out.below (B := w5.heap.size) (by first | exact Below.refl _ _ | (go_grown; done) | exact bdrewN (by go_grown) _) (Nat.le_refl _))).tab (P.out.below (B := w5.heap.size) (by first | exact Below.refl _ _ | (go_grown; done) | exact bdrewN (by go_grown) _) (Nat.le_refl _))).mono ?_
        rintro e w6 ⟨rfl, hb6⟩
        have P := Lib.hid (((P.out).below (B := w5.heap.size) (by first | exact Below.refl _ _ | (go_grown; done) | exact bdrewN (by go_grown) _) (Nat.le_refl _)).below hb6 (Nat.le_refl _))
        have HX := Lib.hid (((HX.out).below (B := w5.heap.size) (by first | exact Below.refl _ _ | (go_grown; done) | exact bdrewN (by go_grown) _) (Nat.le_refl _)).below hb6 (Nat.le_refl _))
        have TB := Lib.hid (((TB.out).below (B := w5.heap.size) (by first | exact Below.refl _ _ | (go_grown; done) | exact bdrewN (by go_grown) _) (Nat.le_refl _)).below hb6 (Nat.le_refl _))
        have X := Lib.hid (((X.out).below (B := w5.heap.size) (by first | exact Below.refl _ _ | (go_grown; done) | exact bdrewN (by go_grown) _) (Nat.le_refl _)).below hb6 (Nat.le_refl _))
        have M := Lib.hid (((M.out).below (B := w5.heap.size) (by first | exact Below.refl _ _ | (go_grown; done) | exact bdrewN (by go_grown) _) (Nat.le_refl _)).below hb6 (Nat.le_refl _))
        obtain ⟨B6, hz6, q6, s6, t6, x6, y6, z6⟩ := bkeep (w := w3) [w3.heap.size, w4.heap.size, w5.heap.size] (by first | (simp; done) | (simp; omega)) (by first | (go_grown; done) | exact bdrewN (by go_grown) _) hb6; (try simp at hz6); clear hb6
        go_wp2_with fail
        refine (RT.out _ (TB.out.below (B := w6.heap.size) (by first | exact Below.refl _ _ | (go_grown; done) | exact bdrewN (by go_grown) _) (Nat.le_refl _))).mono ?_
        rintro e w7 ⟨⟨D7, d7, D7x, d7x, rfl, rr⟩, hb7⟩
        have P := Lib.hid (((P.out).below (B := w6.heap.size) (by first | exact Below.refl _ _ | (go_grown; done) | exact bdrewN (by go_grown) _) (Nat.le_refl _)).below hb7 (Nat.le_refl _))
        have HX := Lib.hid (((HX.out).below (B := w6.heap.size) (by first | exact Below.refl _ _ | (go_grown; done) | exact bdrewN (by go_grown) _) (Nat.le_refl _)).below hb7 (Nat.le_refl _))
        have TB := Lib.hid (((TB.out).below (B := w6.heap.size) (by first | exact Below.refl _ _ | (go_grown; done) | exact bdrewN (by go_grown) _) (Nat.le_refl _)).below hb7 (Nat.le_refl _))
        have X := Lib.hid (((X.out).below (B := w6.heap.size) (by first | exact Below.refl _ _ | (go_grown; done) | exact bdrewN (by go_grown) _) (Nat.le_refl _)).below hb7 (Nat.le_refl _))
        have M := Lib.hid (((M.out).below (B := w6.heap.size) (by first | exact Below.refl _ _ | (go_grown; done) | exact bdrewN (by go_grown) _) (Nat.le_refl _)).below hb7 (Nat.le_refl _))
        have R := Lib.hid (rr.at)
        obtain ⟨B7, hz7, q7, s7, t7, x7, y7, z7⟩ := bkeep (w := w3) [w3.heap.size, w4.heap.size, w5.heap.size] (by first | (simp; done) | (simp; omega)) (by first | (go_grown; done) | exact bdrewN (by go_grown) _) hb7; (try simp at hz7); clear hb7
        clear rr
        go_wp2_with fail
        refine (drawReadGauge_any A c xs _ (HX.out.below (B := w7.heap.size) (by first | exact Below.refl _ _ | (go_grown; done) | exact bdrewN (by go_grown) _) (Nat.le_refl _))).mono ?_
        rintro e w8 ⟨⟨m, rfl, hm⟩, hb8⟩
        have P := Lib.hid (((P.out).below (B := w7.heap.size) (by first | exact Below.refl _ _ | (go_grown; done) | exact bdrewN (by go_grown) _) (Nat.le_refl _)).below hb8 (Nat.le_refl _))
        have HX := Lib.hid (((HX.out).below (B := w7.heap.size) (by first | exact Below.refl _ _ | (go_grown; done) | exact bdrewN (by go_grown) _) (Nat.le_refl _)).below hb8 (Nat.le_refl _))
        have TB := Lib.hid (((TB.out).below (B := w7.heap.size) (by first | exact Below.refl _ _ | (go_grown; done) | exact bdrewN (by go_grown) _) (Nat.le_refl _)).below hb8 (Nat.le_refl _))
        have X := Lib.hid (((X.out).below (B := w7.heap.size) (by first | exact Below.refl _ _ | (go_grown; done) | exact bdrewN (by go_grown) _) (Nat.le_refl _)).below hb8 (Nat.le_refl _))
        have M := Lib.hid (((M.out).below (B := w7.heap.size) (by first | exact Below.refl _ _ | (go_grown; done) | exact bdrewN (by go_grown) _) (Nat.le_refl _)).below hb8 (Nat.le_refl _))
        have R := Lib.hid (((R.out).below (B := w7.heap.size) (by first | exact Below.refl _ _ | (go_grown; done) | exact bdrewN (by go_grown) _) (Nat.le_refl _)).below hb8 (Nat.le_refl _))
        obtain ⟨B8, hz8, q8, s8, t8, x8, y8, z8⟩ := bkeep (w := w3) [w3.heap.size, w4.heap.size, w5.heap.size, w7.heap.size] (by first | (simp; done) | (simp; omega)) (by first | (go_grown; done) | exact bdrewN (by go_grown) _) hb8; (try simp at hz8); clear hb8
        go_wp2_with fail
        refine (implReadGauge_any m _ (by omega) (TB.out.below (B := w8.heap.size) (by first | exact Below.refl _ _ | (go_grown; done) | exact bdrewN (by go_grown) _) (Nat.le_refl _))).mono ?_
        rintro e w9 ⟨⟨D9, d9, D9x, d9x, rfl, rr⟩, hb9⟩
        have P := Lib.hid (((P.out).below (B := w8.heap.size) (by first | exact Below.refl _ _ | (go_grown; done) | exact bdrewN (by go_grown) _) (Nat.le_refl _)).below hb9 (Nat.le_refl _))
        have TB := Lib.hid (((TB.out).below (B := w8.heap.size) (by first | exact Below.refl _ _ | (go_grown; done) | exact bdrewN (by go_grown) _) (Nat.le_refl _)).below hb9 (Nat.le_refl _))
        have X := Lib.hid (((X.out).below (B := w8.heap.size) (by first | exact Below.refl _ _ | (go_grown; done) | exact bdrewN (by go_grown) _) (Nat.le_refl _)).below hb9 (Nat.le_refl _))
        have M := Lib.hid (((M.out).below (B := w8.heap.size) (by first | exact Below.refl _ _ | (go_grown; done) | exact bdrewN (by go_grown) _) (Nat.le_refl _)).below hb9 (Nat.le_refl _))
        have R := Lib.hid (((R.out).below (B := w8.heap.size) (by first | exact Below.refl _ _ | (go_grown; done) | exact bdrewN (by go_grown) _) (Nat.le_refl _)).below hb9 (Nat.le_refl _))
        have Y := Lib.hid (rr.at)
        obtain ⟨B9, hz9, q9, s9, t9, x9, y9, z9⟩ := bkeep (w := w3) [w3.heap.size, w4.heap.size, w5.heap.size, w7.heap.size] (by first | (simp; done) | (simp; omega)) (by first | (go_grown; done) | exact bdrewN (by go_grown) _) hb9; (try simp at hz9); clear hb9
        clear rr
        have YI := Lib.hid True.intro
        go_wp2_with fail
        refine (specReadGauge_any m _ (by omega)).mono ?_
        rintro e w10 ⟨⟨D10, d10, D10x, d10x, rfl, rr⟩, hb10⟩
        have P := Lib.hid (((P.out).below (B := w9.heap.size) (by first | exact Below.refl _ _ | (go_grown; done) | exact bdrewN (by go_grown) _) (Nat.le_refl _)).below hb10 (Nat.le_refl _))
        have TB := Lib.hid (((TB.out).below (B := w9.heap.size) (by first | exact Below.refl _ _ | (go_grown; done) | exact bdrewN (by go_grown) _) (Nat.le_refl _)).below hb10 (Nat.le_refl _))
        have X := Lib.hid (((X.out).below (B := w9.heap.size) (by first | exact Below.refl _ _ | (go_grown; done) | exact bdrewN (by go_grown) _) (Nat.le_refl _)).below hb10 (Nat.le_refl _))
        have M := Lib.hid (((M.out).below (B := w9.heap.size) (by first | exact Below.refl _ _ | (go_grown; done) | exact bdrewN (by go_grown) _) (Nat.le_refl _)).below hb10 (Nat.le_refl _))
        have R := Lib.hid (((R.out).below (B := w9.heap.size) (by first | exact Below.refl _ _ | (go_grown; done) | exact bdrewN (by go_grown) _) (Nat.le_refl _)).below hb10 (Nat.le_refl _))
        have Y := Lib.hid (((Y.out).below (B := w9.heap.size) (by first | exact Below.refl _ _ | (go_grown; done) | exact bdrewN (by go_grown) _) (Nat.le_refl _)).below hb10 (Nat.le_refl _))
        have Z := Lib.hid (rr.at)
        obtain ⟨B10, hz10, q10, s10, t10, x10, y10, z10⟩ := bkeep (w := w3) [w3.heap.size, w4.heap.size, w5.heap.size, w7.heap.size, w9.heap.size] (by first | (simp; done) | (simp; omega)) (by first | (go_grown; done) | exact bdrewN (by go_grown) _) hb10; (try simp at hz10); clear hb10
        clear rr
        go_wp2_with fail
        refine (likeGauges9_same _ _ _ _ _ _ _ _ _ _ _ (X.out.below (B := w10.heap.size) (by first | exact Below.refl _ _ | (go_grown; done) | exact bdrewN (by go_grown) _) (Nat.le_refl _)) (M.out.below (B := w10.heap.size) (by first | exact Below.refl _ _ | (go_grown; done) | exact bdrewN (by go_grown) _) (Nat.le_refl _))).mono ?_
        rintro e w11 ⟨rfl, hb11⟩
        have P := Lib.hid (((P.out).below (B := w10.heap.size) (by first | exact Below.refl _ _ | (go_grown; done) | exact bdrewN (by go_grown) _) (Nat.le_refl _)).below hb11 (Nat.le_refl _))
        have TB := Lib.hid (((TB.out).below (B := w10.heap.size) (by first | exact Below.refl _ _ | (go_grown; done) | exact bdrewN (by go_grown) _) (Nat.le_refl _)).below hb11 (Nat.le_refl _))
        have X := Lib.hid (((X.out).below (B := w10.heap.size) (by first | exact Below.refl _ _ | (go_grown; done) | exact bdrewN (by go_grown) _) (Nat.le_refl _)).below hb11 (Nat.le_refl _))
        have M := Lib.hid (((M.out).below (B := w10.heap.size) (by first | exact Below.refl _ _ | (go_grown; done) | exact bdrewN (by go_grown) _) (Nat.le_refl _)).below hb11 (Nat.le_refl _))
        have R := Lib.hid (((R.out).below (B := w10.heap.size) (by first | exact Below.refl _ _ | (go_grown; done) | exact bdrewN (by go_grown) _) (Nat.le_refl _)).below hb11 (Nat.le_refl _))
        have Y := Lib.hid (((Y.out).below (B := w10.heap.size) (by first | exact Below.refl _ _ | (go_grown; done) | exact bdrewN (by go_grown) _) (Nat.le_refl _)).below hb11 (Nat.le_refl _))
        have Z := Lib.hid (((Z.out).below (B := w10.heap.size) (by first | exact Below.refl _ _ | (go_grown; done) | exact bdrewN (by go_grown) _) (Nat.le_refl _)).below hb11 (Nat.le_refl _))
        obtain ⟨B11, hz11, q11, s11, t11, x11, y11, z11⟩ := bkeep (w := w3) [w3.heap.size, w4.heap.size, w5.heap.size, w7.heap.size, w9.heap.size, w10.heap.size] (by first | (simp; done) | (simp; omega)) (by first | (go_grown; done) | exact bdrewN (by go_grown) _) hb11; (try simp at hz11); clear hb11
        go_wp2_with fail
        refine (GS.out _ _ _ _ _ (P.out.below (B := w11.heap.size) (by first | exact Below.refl _ _ | (go_grown; done) | exact bdrewN (by go_grown) _) (Nat.le_refl _))).mono ?_
        rintro e w12 ⟨rfl, hb12⟩
        have P := Lib.hid (((P.out).below (B := w11.heap.size) (by first | exact Below.refl _ _ | (go_grown; done) | exact bdrewN (by go_grown) _) (Nat.le_refl _)).below hb12 (Nat.le_refl _))
        have TB := Lib.hid (((TB.out).below (B := w11.heap.size) (by first | exact Below.refl _ _ | (go_grown; done) | exact bdrewN (by go_grown) _) (Nat.le_refl _)).below hb12 (Nat.le_refl _))
        have X := Lib.hid (((X.out).below (B := w11.heap.size) (by first | exact Below.refl _ _ | (go_grown; done) | exact bdrewN (by go_grown) _) (Nat.le_refl _)).below hb12 (Nat.le_refl _))
        have R := Lib.hid (((R.out).below (B := w11.heap.size) (by first | exact Below.refl _ _ | (go_grown; done) | exact bdrewN (by go_grown) _) (Nat.le_refl _)).below hb12 (Nat.le_refl _))
        have Y := Lib.hid (((Y.out).below (B := w11.heap.size) (by first | exact Below.refl _ _ | (go_grown; done) | exact bdrewN (by go_grown) _) (Nat.le_refl _)).below hb12 (Nat.le_refl _))
        have Z := Lib.hid (((Z.out).below (B := w11.heap.size) (by first | exact Below.refl _ _ | (go_grown; done) | exact bdrewN (by go_grown) _) (Nat.le_refl _)).below hb12 (Nat.le_refl _))
        obtain ⟨B12, hz12, q12, s12, t12, x12, y12, z12⟩ := bkeep (w := w3) [w3.heap.size, w4.heap.size, w5.heap.size, w7.heap.size, w9.heap.size, w10.heap.size] (by first | (simp; done) | (simp; omega)) (by first | (go_grown; done) | exact bdrewN (by go_grown) _) hb12; (try simp at hz12); clear hb12
        go_wp2_with fail
        refine (likeGauges9_same _ _ _ _ _ _ _ _ _ _ _ (R.out.below (B := w12.heap.size) (by first | exact Below.refl _ _ | (go_grown; done) | exact bdrewN (by go_grown) _) (Nat.le_refl _)) (P.out.below (B := w12.heap.size) (by first | exact Below.refl _ _ | (go_grown; done) | exact bdrewN (by go_grown) _) (Nat.le_refl _))).mono ?_
        rintro e w13 ⟨rfl, hb13⟩
        have P := Lib.hid (((P.out).below (B := w12.heap.size) (by first | exact Below.refl _ _ | (go_grown; done) | exact bdrewN (by go_grown) _) (Nat.le_refl _)).below hb13 (Nat.le_refl _))
        have TB := Lib.hid (((TB.out).below (B := w12.heap.size) (by first | exact Below.refl _ _ | (go_grown; done) | exact bdrewN (by go_grown) _) (Nat.le_refl _)).below hb13 (Nat.le_refl _))
        have X := Lib.hid (((X.out).below (B := w12.heap.size) (by first | exact Below.refl _ _ | (go_grown; done) | exact bdrewN (by go_grown) _) (Nat.le_refl _)).below hb13 (Nat.le_refl _))
        have R := Lib.hid (((R.out).below (B := w12.heap.size) (by first | exact Below.refl _ _ | (go_grown; done) | exact bdrewN (by go_grown) _) (Nat.le_refl _)).below hb13 (Nat.le_refl _))
        have Y := Lib.hid (((Y.out).below (B := w12.heap.size) (by first | exact Below.refl _ _ | (go_grown; done) | exact bdrewN (by go_grown) _) (Nat.le_refl _)).below hb13 (Nat.le_refl _))
        have Z := Lib.hid (((Z.out).below (B := w12.heap.size) (by first | exact Below.refl _ _ | (go_grown; done) | exact bdrewN (by go_grown) _) (Nat.le_refl _)).below hb13 (Nat.le_refl _))
        obtain ⟨B13, hz13, q13, s13, t13, x13, y13, z13⟩ := bkeep (w := w3) [w3.heap.size, w4.heap.size, w5.heap.size, w7.heap.size, w9.heap.size, w10.heap.size] (by first | (simp; done) | (simp; omega)) (by first | (go_grown; done) | exact bdrewN (by go_grown) _) hb13; (try simp at hz13); clear hb13
        go_wp2_with fail
        refine (likeGauges9_same _ _ _ _ _ _ _ _ _ _ _ (Y.out.below (B := w13.heap.size) (by first | exact Below.refl _ _ | (go_grown; done) | exact bdrewN (by go_grown) _) (Nat.le_refl _)) (Z.out.below (B := w13.heap.size) (by first | exact Below.refl _ _ | (go_grown; done) | exact bdrewN (by go_grown) _) (Nat.le_refl _))).mono ?_
        rintro e w14 ⟨rfl, hb14⟩
        have P := Lib.hid (((P.out).below (B := w13.heap.size) (by first | exact Below.refl _ _ | (go_grown; done) | exact bdrewN (by go_grown) _) (Nat.le_refl _)).below hb14 (Nat.le_refl _))
        have TB := Lib.hid (((TB.out).below (B := w13.heap.size) (by first | exact Below.refl _ _ | (go_grown; done) | exact bdrewN (by go_grown) _) (Nat.le_refl _)).below hb14 (Nat.le_refl _))
        have X := Lib.hid (((X.out).below (B := w13.heap.size) (by first | exact Below.refl _ _ | (go_grown; done) | exact bdrewN (by go_grown) _) (Nat.le_refl _)).below hb14 (Nat.le_refl _))
        have Y := Lib.hid (((Y.out).below (B := w13.heap.size) (by first | exact Below.refl _ _ | (go_grown; done) | exact bdrewN (by go_grown) _) (Nat.le_refl _)).below hb14 (Nat.le_refl _))
        have Z := Lib.hid (((Z.out).below (B := w13.heap.size) (by first | exact Below.refl _ _ | (go_grown; done) | exact bdrewN (by go_grown) _) (Nat.le_refl _)).below hb14 (Nat.le_refl _))
        obtain ⟨B14, hz14, q14, s14, t14, x14, y14, z14⟩ := bkeep (w := w3) [w3.heap.size, w4.heap.size, w5.heap.size, w7.heap.size, w9.heap.size, w10.heap.size] (by first | (simp; done) | (simp; omega)) (by first | (go_grown; done) | exact bdrewN (by go_grown) _) hb14; (try simp at hz14); clear hb14
        go_wp2_with fail
        refine (IG.out _ _ _ _ _ (P.out.below (B := w14.heap.size) (by first | exact Below.refl _ _ | (go_grown; done) | exact bdrewN (by go_grown) _) (Nat.le_refl _))).mono ?_
        rintro e w15 ⟨rfl, hb15⟩
        have P := Lib.hid (((P.out).below (B := w14.heap.size) (by first | exact Below.refl _ _ | (go_grown; done) | exact bdrewN (by go_grown) _) (Nat.le_refl _)).below hb15 (Nat.le_refl _))
        have TB := Lib.hid (((TB.out).below (B := w14.heap.size) (by first | exact Below.refl _ _ | (go_grown; done) | exact bdrewN (by go_grown) _) (Nat.le_refl _)).below hb15 (Nat.le_refl _))
        have X := Lib.hid (((X.out).below (B := w14.heap.size) (by first | exact Below.refl _ _ | (go_grown; done) | exact bdrewN (by go_grown) _) (Nat.le_refl _)).below hb15 (Nat.le_refl _))
        obtain ⟨B15, hz15, q15, s15, t15, x15, y15, z15⟩ := bkeep (w := w3) [w3.heap.size, w4.heap.size, w5.heap.size, w7.heap.size, w9.heap.size, w10.heap.size] (by first | (simp; done) | (simp; omega)) (by first | (go_grown; done) | exact bdrewN (by go_grown) _) hb15; (try simp at hz15); clear hb15
        go_wp2_with fail
        go_ret
        exact ⟨rfl, B3.out.trans (Below.mono (show Below w3.heap.size w3 _ by first | exact B15 | (go_grown; done) | exact bdrewN B15 _ | exact bdrewN (by go_grown) _ | (go_grown <;> exact bdrewN B15 _)) B3.out.size)⟩
    · have hc : ¬ shC ts ls a b = 0 := fun q => hp (sh_zero q).1
      have hp' : gauB ts ls = false := by simpa using hp
      have hT0 := gtS_no hp'
      have GI := Lib.hid (show ∀ W B1 d1 B2 d2, TabW W → ProfAt W B1 d1 B2 d2 ts ls → Calls Tryd.prog 12 #[profV B1 ts.length d1 B2 ls.length d2] W fun e w' => e = .returned (strL []) ∧ Below W.heap.size W w' from fun W B1 d1 B2 d2 ht h => by have q := implGaugeText_any B1 B2 d1 d2 ts ls W ht h; rw [hT0] at q; exact q)
      have GS := Lib.hid (show ∀ W B1 d1 B2 d2, ProfAt W B1 d1 B2 d2 ts ls → Calls Tryd.prog 10 #[profV B1 ts.length d1 B2 ls.length d2] W fun e w' => e = .returned (strL []) ∧ Below W.heap.size W w' from fun W B1 d1 B2 d2 h => by have q := specGaugeText_any B1 B2 d1 d2 ts ls W h; rw [hT0] at q; exact q)
      have RT := Lib.hid (show ∀ W, RdW W → Calls Tryd.prog 20 #[strL []] W fun e w' => (∃ B1 d1 B2 d2, e = .returned (.tuple #[profV B1 (List.length ([] : List Int)) d1 B2 (List.length ([] : List Int)) d2, .bool false]) ∧ ResP w' W.heap.size w'.heap.size B1 d1 B2 d2 ([] : List Int) ([] : List Int)) ∧ Below W.heap.size W w' from fun W ht => by have q := implReadGauge_any [] W (by simp) ht; rw [rg_empty.1, rg_empty.2.1, rg_empty.2.2] at q; exact q)
      have IG := Lib.hid (show ∀ W B1 d1 B2 d2, ProfAt W B1 d1 B2 d2 ts ls → Calls Tryd.prog 33 #[profV B1 ts.length d1 B2 ls.length d2] W fun e w' => e = .returned (.bool false) ∧ Below W.heap.size W w' from fun W B1 d1 B2 d2 h => by have q := implIsGauge_any B1 B2 d1 d2 ts ls W h; rw [hp'] at q; exact q)
      obtain ⟨E, hE⟩ : ∃ E, E = shC ts ls a b := ⟨_, rfl⟩
      rw [← hE] at hc
      have hc2 : (E != 0) = true := by simpa using hc
      have SI := Lib.hid (show ∀ W B1 d1 B2 d2, ProfAt W B1 d1 B2 d2 ts ls → Calls Tryd.prog 29 #[profV B1 ts.length d1 B2 ls.length d2, .int .i64 a, .int .i64 b] W fun e w' => (∃ B1 d1 B2 d2, e = .returned (.tuple #[profV B1 (shT ts ls a b).length d1 B2 (shL ts ls a b).length d2, .int .i64 E]) ∧ ResP w' W.heap.size w'.heap.size B1 d1 B2 d2 (shT ts ls a b) (shL ts ls a b)) ∧ Below W.heap.size W w' from fun W B1 d1 B2 d2 h => by have q := implShift_any B1 B2 d1 d2 ts ls a b W h; rw [← hE] at q; exact q)
      have SS := Lib.hid (show ∀ W B1 d1 B2 d2, ProfAt W B1 d1 B2 d2 ts ls → Calls Tryd.prog 30 #[profV B1 ts.length d1 B2 ls.length d2, .int .i64 a, .int .i64 b] W fun e w' => (∃ B1 d1 B2 d2, e = .returned (.tuple #[profV B1 (shT ts ls a b).length d1 B2 (shL ts ls a b).length d2, .int .i64 E]) ∧ ResP w' W.heap.size w'.heap.size B1 d1 B2 d2 (shT ts ls a b) (shL ts ls a b)) ∧ Below W.heap.size W w' from fun W B1 d1 B2 d2 h => by have q := specShift_any B1 B2 d1 d2 ts ls a b W h; rw [← hE] at q; exact q)
      obtain ⟨us, hus⟩ : ∃ x, x = shT ts ls a b := ⟨_, rfl⟩
      obtain ⟨vs, hvs⟩ : ∃ x, x = shL ts ls a b := ⟨_, rfl⟩
      rw [← hus, ← hvs] at SI SS
      clear hus hvs hc hp hp' hT0 hE
      go_wp2_with fail
      refine (SI.out _ _ _ _ _ (P.out.below (B := w3.heap.size) (by first | exact Below.refl _ _ | (go_grown; done) | exact bdrewN (by go_grown) _) (Nat.le_refl _))).mono ?_
      rintro e w4 ⟨⟨D4, d4, D4x, d4x, rfl, rr⟩, hb4⟩
      have P := Lib.hid (((P.out).below (B := w3.heap.size) (by first | exact Below.refl _ _ | (go_grown; done) | exact bdrewN (by go_grown) _) (Nat.le_refl _)).below hb4 (Nat.le_refl _))
      have HX := Lib.hid (((HX.out).below (B := w3.heap.size) (by first | exact Below.refl _ _ | (go_grown; done) | exact bdrewN (by go_grown) _) (Nat.le_refl _)).below hb4 (Nat.le_refl _))
      have TB := Lib.hid (((TB.out).below (B := w3.heap.size) (by first | exact Below.refl _ _ | (go_grown; done) | exact bdrewN (by go_grown) _) (Nat.le_refl _)).below hb4 (Nat.le_refl _))
      have X := Lib.hid (rr.at)
      obtain ⟨B4, hz4, q4, s4, t4, x4, y4, z4⟩ := bkeep (w := w3) [w3.heap.size] (by first | (simp; done) | (simp; omega)) (by first | (go_grown; done) | exact bdrewN (by go_grown) _) hb4; (try simp at hz4); clear hb4
      clear rr
      go_wp2_with fail
      refine (SS.out _ _ _ _ _ (P.out.below (B := w4.heap.size) (by first | exact Below.refl _ _ | (go_grown; done) | exact bdrewN (by go_grown) _) (Nat.le_refl _))).mono ?_
      rintro e w5 ⟨⟨D5, d5, D5x, d5x, rfl, rr⟩, hb5⟩
      have P := Lib.hid (((P.out).below (B := w4.heap.size) (by first | exact Below.refl _ _ | (go_grown; done) | exact bdrewN (by go_grown) _) (Nat.le_refl _)).below hb5 (Nat.le_refl _))
      have HX := Lib.hid (((HX.out).below (B := w4.heap.size) (by first | exact Below.refl _ _ | (go_grown; done) | exact bdrewN (by go_grown) _) (Nat.le_refl _)).below hb5 (Nat.le_refl _))
      have TB := Lib.hid (((TB.out).below (B := w4.heap.size) (by first | exact Below.refl _ _ | (go_grown; done) | exact bdrewN (by go_grown) _) (Nat.le_refl _)).below hb5 (Nat.le_refl _))
      have X := Lib.hid (((X.out).below (B := w4.heap.size) (by first | exact Below.refl _ _ | (go_grown; done) | exact bdrewN (by go_grown) _) (Nat.le_refl _)).below hb5 (Nat.le_refl _))
      have M := Lib.hid (rr.at)
      obtain ⟨B5, hz5, q5, s5, t5, x5, y5, z5⟩ := bkeep (w := w3) [w3.heap.size, w4.heap.size] (by first | (simp; done) | (simp; omega)) (by first | (go_grown; done) | exact bdrewN (by go_grown) _) hb5; (try simp at hz5); clear hb5
      clear rr
      go_wp2_with fail
      refine (GI.out _ _ _ _ _ ((TB.out.below (B := w5.heap.size) (by first | exact Below.refl _ _ | (go_grown; done) | exact bdrewN (by go_grown) _) (Nat.le_refl _))).tab (P.out.below (B := w5.heap.size) (by first | exact Below.refl _ _ | (go_grown; done) | exact bdrewN (by go_grown) _) (Nat.le_refl _))).mono ?_
      rintro e w6 ⟨rfl, hb6⟩
      have P := Lib.hid (((P.out).below (B := w5.heap.size) (by first | exact Below.refl _ _ | (go_grown; done) | exact bdrewN (by go_grown) _) (Nat.le_refl _)).below hb6 (Nat.le_refl _))
      have HX := Lib.hid (((HX.out).below (B := w5.heap.size) (by first | exact Below.refl _ _ | (go_grown; done) | exact bdrewN (by go_grown) _) (Nat.le_refl _)).below hb6 (Nat.le_refl _))
      have TB := Lib.hid (((TB.out).below (B := w5.heap.size) (by first | exact Below.refl _ _ | (go_grown; done) | exact bdrewN (by go_grown) _) (Nat.le_refl _)).below hb6 (Nat.le_refl _))
      have X := Lib.hid (((X.out).below (B := w5.heap.size) (by first | exact Below.refl _ _ | (go_grown; done) | exact bdrewN (by go_grown) _) (Nat.le_refl _)).below hb6 (Nat.le_refl _))
      have M := Lib.hid (((M.out).below (B := w5.heap.size) (by first | exact Below.refl _ _ | (go_grown; done) | exact bdrewN (by go_grown) _) (Nat.le_refl _)).below hb6 (Nat.le_refl _))
      obtain ⟨B6, hz6, q6, s6, t6, x6, y6, z6⟩ := bkeep (w := w3) [w3.heap.size, w4.heap.size, w5.heap.size] (by first | (simp; done) | (simp; omega)) (by first | (go_grown; done) | exact bdrewN (by go_grown) _) hb6; (try simp at hz6); clear hb6
      go_wp2_with fail
      refine (RT.out _ (TB.out.below (B := w6.heap.size) (by first | exact Below.refl _ _ | (go_grown; done) | exact bdrewN (by go_grown) _) (Nat.le_refl _))).mono ?_
      rintro e w7 ⟨⟨D7, d7, D7x, d7x, rfl, rr⟩, hb7⟩
      have P := Lib.hid (((P.out).below (B := w6.heap.size) (by first | exact Below.refl _ _ | (go_grown; done) | exact bdrewN (by go_grown) _) (Nat.le_refl _)).below hb7 (Nat.le_refl _))
      have HX := Lib.hid (((HX.out).below (B := w6.heap.size) (by first | exact Below.refl _ _ | (go_grown; done) | exact bdrewN (by go_grown) _) (Nat.le_refl _)).below hb7 (Nat.le_refl _))
      have TB := Lib.hid (((TB.out).below (B := w6.heap.size) (by first | exact Below.refl _ _ | (go_grown; done) | exact bdrewN (by go_grown) _) (Nat.le_refl _)).below hb7 (Nat.le_refl _))
      have X := Lib.hid (((X.out).below (B := w6.heap.size) (by first | exact Below.refl _ _ | (go_grown; done) | exact bdrewN (by go_grown) _) (Nat.le_refl _)).below hb7 (Nat.le_refl _))
      have M := Lib.hid (((M.out).below (B := w6.heap.size) (by first | exact Below.refl _ _ | (go_grown; done) | exact bdrewN (by go_grown) _) (Nat.le_refl _)).below hb7 (Nat.le_refl _))
      have R := Lib.hid (rr.at)
      obtain ⟨B7, hz7, q7, s7, t7, x7, y7, z7⟩ := bkeep (w := w3) [w3.heap.size, w4.heap.size, w5.heap.size] (by first | (simp; done) | (simp; omega)) (by first | (go_grown; done) | exact bdrewN (by go_grown) _) hb7; (try simp at hz7); clear hb7
      clear rr
      go_wp2_with fail
      refine (drawReadGauge_any A c xs _ (HX.out.below (B := w7.heap.size) (by first | exact Below.refl _ _ | (go_grown; done) | exact bdrewN (by go_grown) _) (Nat.le_refl _))).mono ?_
      rintro e w8 ⟨⟨m, rfl, hm⟩, hb8⟩
      have P := Lib.hid (((P.out).below (B := w7.heap.size) (by first | exact Below.refl _ _ | (go_grown; done) | exact bdrewN (by go_grown) _) (Nat.le_refl _)).below hb8 (Nat.le_refl _))
      have HX := Lib.hid (((HX.out).below (B := w7.heap.size) (by first | exact Below.refl _ _ | (go_grown; done) | exact bdrewN (by go_grown) _) (Nat.le_refl _)).below hb8 (Nat.le_refl _))
      have TB := Lib.hid (((TB.out).below (B := w7.heap.size) (by first | exact Below.refl _ _ | (go_grown; done) | exact bdrewN (by go_grown) _) (Nat.le_refl _)).below hb8 (Nat.le_refl _))
      have X := Lib.hid (((X.out).below (B := w7.heap.size) (by first | exact Below.refl _ _ | (go_grown; done) | exact bdrewN (by go_grown) _) (Nat.le_refl _)).below hb8 (Nat.le_refl _))
      have M := Lib.hid (((M.out).below (B := w7.heap.size) (by first | exact Below.refl _ _ | (go_grown; done) | exact bdrewN (by go_grown) _) (Nat.le_refl _)).below hb8 (Nat.le_refl _))
      have R := Lib.hid (((R.out).below (B := w7.heap.size) (by first | exact Below.refl _ _ | (go_grown; done) | exact bdrewN (by go_grown) _) (Nat.le_refl _)).below hb8 (Nat.le_refl _))
      obtain ⟨B8, hz8, q8, s8, t8, x8, y8, z8⟩ := bkeep (w := w3) [w3.heap.size, w4.heap.size, w5.heap.size, w7.heap.size] (by first | (simp; done) | (simp; omega)) (by first | (go_grown; done) | exact bdrewN (by go_grown) _) hb8; (try simp at hz8); clear hb8
      go_wp2_with fail
      refine (implReadGauge_any m _ (by omega) (TB.out.below (B := w8.heap.size) (by first | exact Below.refl _ _ | (go_grown; done) | exact bdrewN (by go_grown) _) (Nat.le_refl _))).mono ?_
      rintro e w9 ⟨⟨D9, d9, D9x, d9x, rfl, rr⟩, hb9⟩
      have P := Lib.hid (((P.out).below (B := w8.heap.size) (by first | exact Below.refl _ _ | (go_grown; done) | exact bdrewN (by go_grown) _) (Nat.le_refl _)).below hb9 (Nat.le_refl _))
      have TB := Lib.hid (((TB.out).below (B := w8.heap.size) (by first | exact Below.refl _ _ | (go_grown; done) | exact bdrewN (by go_grown) _) (Nat.le_refl _)).below hb9 (Nat.le_refl _))
      have X := Lib.hid (((X.out).below (B := w8.heap.size) (by first | exact Below.refl _ _ | (go_grown; done) | exact bdrewN (by go_grown) _) (Nat.le_refl _)).below hb9 (Nat.le_refl _))
      have M := Lib.hid (((M.out).below (B := w8.heap.size) (by first | exact Below.refl _ _ | (go_grown; done) | exact bdrewN (by go_grown) _) (Nat.le_refl _)).below hb9 (Nat.le_refl _))
      have R := Lib.hid (((R.out).below (B := w8.heap.size) (by first | exact Below.refl _ _ | (go_grown; done) | exact bdrewN (by go_grown) _) (Nat.le_refl _)).below hb9 (Nat.le_refl _))
      have Y := Lib.hid (rr.at)
      obtain ⟨B9, hz9, q9, s9, t9, x9, y9, z9⟩ := bkeep (w := w3) [w3.heap.size, w4.heap.size, w5.heap.size, w7.heap.size] (by first | (simp; done) | (simp; omega)) (by first | (go_grown; done) | exact bdrewN (by go_grown) _) hb9; (try simp at hz9); clear hb9
      clear rr
      have YI := Lib.hid True.intro
      go_wp2_with fail
      refine (specReadGauge_any m _ (by omega)).mono ?_
      rintro e w10 ⟨⟨D10, d10, D10x, d10x, rfl, rr⟩, hb10⟩
      have P := Lib.hid (((P.out).below (B := w9.heap.size) (by first | exact Below.refl _ _ | (go_grown; done) | exact bdrewN (by go_grown) _) (Nat.le_refl _)).below hb10 (Nat.le_refl _))
      have TB := Lib.hid (((TB.out).below (B := w9.heap.size) (by first | exact Below.refl _ _ | (go_grown; done) | exact bdrewN (by go_grown) _) (Nat.le_refl _)).below hb10 (Nat.le_refl _))
      have X := Lib.hid (((X.out).below (B := w9.heap.size) (by first | exact Below.refl _ _ | (go_grown; done) | exact bdrewN (by go_grown) _) (Nat.le_refl _)).below hb10 (Nat.le_refl _))
      have M := Lib.hid (((M.out).below (B := w9.heap.size) (by first | exact Below.refl _ _ | (go_grown; done) | exact bdrewN (by go_grown) _) (Nat.le_refl _)).below hb10 (Nat.le_refl _))
      have R := Lib.hid (((R.out).below (B := w9.heap.size) (by first | exact Below.refl _ _ | (go_grown; done) | exact bdrewN (by go_grown) _) (Nat.le_refl _)).below hb10 (Nat.le_refl _))
      have Y := Lib.hid (((Y.out).below (B := w9.heap.size) (by first | exact Below.refl _ _ | (go_grown; done) | exact bdrewN (by go_grown) _) (Nat.le_refl _)).below hb10 (Nat.le_refl _))
      have Z := Lib.hid (rr.at)
      obtain ⟨B10, hz10, q10, s10, t10, x10, y10, z10⟩ := bkeep (w := w3) [w3.heap.size, w4.heap.size, w5.heap.size, w7.heap.size, w9.heap.size] (by first | (simp; done) | (simp; omega)) (by first | (go_grown; done) | exact bdrewN (by go_grown) _) hb10; (try simp at hz10); clear hb10
      clear rr
      go_wp2_with fail
      refine (likeGauges9_same _ _ _ _ _ _ _ _ _ _ _ (X.out.below (B := w10.heap.size) (by first | exact Below.refl _ _ | (go_grown; done) | exact bdrewN (by go_grown) _) (Nat.le_refl _)) (M.out.below (B := w10.heap.size) (by first | exact Below.refl _ _ | (go_grown; done) | exact bdrewN (by go_grown) _) (Nat.le_refl _))).mono ?_
      rintro e w11 ⟨rfl, hb11⟩
      have P := Lib.hid (((P.out).below (B := w10.heap.size) (by first | exact Below.refl _ _ | (go_grown; done) | exact bdrewN (by go_grown) _) (Nat.le_refl _)).below hb11 (Nat.le_refl _))
      have TB := Lib.hid (((TB.out).below (B := w10.heap.size) (by first | exact Below.refl _ _ | (go_grown; done) | exact bdrewN (by go_grown) _) (Nat.le_refl _)).below hb11 (Nat.le_refl _))
      have X := Lib.hid (((X.out).below (B := w10.heap.size) (by first | exact Below.refl _ _ | (go_grown; done) | exact bdrewN (by go_grown) _) (Nat.le_refl _)).below hb11 (Nat.le_refl _))
      have M := Lib.hid (((M.out).below (B := w10.heap.size) (by first | exact Below.refl _ _ | (go_grown; done) | exact bdrewN (by go_grown) _) (Nat.le_refl _)).below hb11 (Nat.le_refl _))
      have R := Lib.hid (((R.out).below (B := w10.heap.size) (by first | exact Below.refl _ _ | (go_grown; done) | exact bdrewN (by go_grown) _) (Nat.le_refl _)).below hb11 (Nat.le_refl _))
      have Y := Lib.hid (((Y.out).below (B := w10.heap.size) (by first | exact Below.refl _ _ | (go_grown; done) | exact bdrewN (by go_grown) _) (Nat.le_refl _)).below hb11 (Nat.le_refl _))
      have Z := Lib.hid (((Z.out).below (B := w10.heap.size) (by first | exact Below.refl _ _ | (go_grown; done) | exact bdrewN (by go_grown) _) (Nat.le_refl _)).below hb11 (Nat.le_refl _))
      obtain ⟨B11, hz11, q11, s11, t11, x11, y11, z11⟩ := bkeep (w := w3) [w3.heap.size, w4.heap.size, w5.heap.size, w7.heap.size, w9.heap.size, w10.heap.size] (by first | (simp; done) | (simp; omega)) (by first | (go_grown; done) | exact bdrewN (by go_grown) _) hb11; (try simp at hz11); clear hb11
      go_wp2_with fail
      refine (GS.out _ _ _ _ _ (P.out.below (B := w11.heap.size) (by first | exact Below.refl _ _ | (go_grown; done) | exact bdrewN (by go_grown) _) (Nat.le_refl _))).mono ?_
      rintro e w12 ⟨rfl, hb12⟩
      have P := Lib.hid (((P.out).below (B := w11.heap.size) (by first | exact Below.refl _ _ | (go_grown; done) | exact bdrewN (by go_grown) _) (Nat.le_refl _)).below hb12 (Nat.le_refl _))
      have TB := Lib.hid (((TB.out).below (B := w11.heap.size) (by first | exact Below.refl _ _ | (go_grown; done) | exact bdrewN (by go_grown) _) (Nat.le_refl _)).below hb12 (Nat.le_refl _))
      have X := Lib.hid (((X.out).below (B := w11.heap.size) (by first | exact Below.refl _ _ | (go_grown; done) | exact bdrewN (by go_grown) _) (Nat.le_refl _)).below hb12 (Nat.le_refl _))
      have R := Lib.hid (((R.out).below (B := w11.heap.size) (by first | exact Below.refl _ _ | (go_grown; done) | exact bdrewN (by go_grown) _) (Nat.le_refl _)).below hb12 (Nat.le_refl _))
      have Y := Lib.hid (((Y.out).below (B := w11.heap.size) (by first | exact Below.refl _ _ | (go_grown; done) | exact bdrewN (by go_grown) _) (Nat.le_refl _)).below hb12 (Nat.le_refl _))
      have Z := Lib.hid (((Z.out).below (B := w11.heap.size) (by first | exact Below.refl _ _ | (go_grown; done) | exact bdrewN (by go_grown) _) (Nat.le_refl _)).below hb12 (Nat.le_refl _))
      obtain ⟨B12, hz12, q12, s12, t12, x12, y12, z12⟩ := bkeep (w := w3) [w3.heap.size, w4.heap.size, w5.heap.size, w7.heap.size, w9.heap.size, w10.heap.size] (by first | (simp; done) | (simp; omega)) (by first | (go_grown; done) | exact bdrewN (by go_grown) _) hb12; (try simp at hz12); clear hb12
      go_wp2_with fail
      refine (likeGauges9_same _ _ _ _ _ _ _ _ _ _ _ (Y.out.below (B := w12.heap.size) (by first | exact Below.refl _ _ | (go_grown; done) | exact bdrewN (by go_grown) _) (Nat.le_refl _)) (Z.out.below (B := w12.heap.size) (by first | exact Below.refl _ _ | (go_grown; done) | exact bdrewN (by go_grown) _) (Nat.le_refl _))).mono ?_
      rintro e w13 ⟨rfl, hb13⟩
      have P := Lib.hid (((P.out).below (B := w12.heap.size) (by first | exact Below.refl _ _ | (go_grown; done) | exact bdrewN (by go_grown) _) (Nat.le_refl _)).below hb13 (Nat.le_refl _))
      have TB := Lib.hid (((TB.out).below (B := w12.heap.size) (by first | exact Below.refl _ _ | (go_grown; done) | exact bdrewN (by go_grown) _) (Nat.le_refl _)).below hb13 (Nat.le_refl _))
      have X := Lib.hid (((X.out).below (B := w12.heap.size) (by first | exact Below.refl _ _ | (go_grown; done) | exact bdrewN (by go_grown) _) (Nat.le_refl _)).below hb13 (Nat.le_refl _))
      have Y := Lib.hid (((Y.out).below (B := w12.heap.size) (by first | exact Below.refl _ _ | (go_grown; done) | exact bdrewN (by go_grown) _) (Nat.le_refl _)).below hb13 (Nat.le_refl _))
      have Z := Lib.hid (((Z.out).below (B := w12.heap.size) (by first | exact Below.refl _ _ | (go_grown; done) | exact bdrewN (by go_grown) _) (Nat.le_refl _)).below hb13 (Nat.le_refl _))
      obtain ⟨B13, hz13, q13, s13, t13, x13, y13, z13⟩ := bkeep (w := w3) [w3.heap.size, w4.heap.size, w5.heap.size, w7.heap.size, w9.heap.size, w10.heap.size] (by first | (simp; done) | (simp; omega)) (by first | (go_grown; done) | exact bdrewN (by go_grown) _) hb13; (try simp at hz13); clear hb13
      go_wp2_with fail
      refine (IG.out _ _ _ _ _ (P.out.below (B := w13.heap.size) (by first | exact Below.refl _ _ | (go_grown; done) | exact bdrewN (by go_grown) _) (Nat.le_refl _))).mono ?_
      rintro e w14 ⟨rfl, hb14⟩
      have P := Lib.hid (((P.out).below (B := w13.heap.size) (by first | exact Below.refl _ _ | (go_grown; done) | exact bdrewN (by go_grown) _) (Nat.le_refl _)).below hb14 (Nat.le_refl _))
      have TB := Lib.hid (((TB.out).below (B := w13.heap.size) (by first | exact Below.refl _ _ | (go_grown; done) | exact bdrewN (by go_grown) _) (Nat.le_refl _)).below hb14 (Nat.le_refl _))
      have X := Lib.hid (((X.out).below (B := w13.heap.size) (by first | exact Below.refl _ _ | (go_grown; done) | exact bdrewN (by go_grown) _) (Nat.le_refl _)).below hb14 (Nat.le_refl _))
      obtain ⟨B14, hz14, q14, s14, t14, x14, y14, z14⟩ := bkeep (w := w3) [w3.heap.size, w4.heap.size, w5.heap.size, w7.heap.size, w9.heap.size, w10.heap.size] (by first | (simp; done) | (simp; omega)) (by first | (go_grown; done) | exact bdrewN (by go_grown) _) hb14; (try simp at hz14); clear hb14
      go_wp2_with fail
      go_ret
      exact ⟨rfl, B3.out.trans (Below.mono (show Below w3.heap.size w3 _ by first | exact B14 | (go_grown; done) | exact bdrewN B14 _ | exact bdrewN (by go_grown) _ | (go_grown <;> exact bdrewN B14 _)) B3.out.size)⟩
end
end Go.Proofs.YtebdokpokbcgjaaDoor
