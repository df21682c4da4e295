/- Texts in one: Dmg, PrP, DrawPr. -/
import Derived.Test.YtebdokpokbcgjaaDoorRdM
import Derived.Test.YtebdokpokbcgjaaDoorDrawLem
import Derived.Deep.DeepCutAuto
import Derived.Test.YtebdokpokbcgjaaDoorRpP
import Derived.Test.YtebdokpokbcgjaaDoorPtS
import Derived.Test.YtebdokpokbcgjaaDoorCutP
import Derived.Test.YtebdokpokbcgjaaDoorDrawKnot
namespace Go.Proofs.YtebdokpokbcgjaaDoor
section
set_option linter.unusedSimpArgs false
set_option linter.unusedVariables false
open Go.RowKit

theorem layD_ {T P : Prop} (h : T) (k : T → P) : P := k h
theorem strsize (l : List UInt8) : (⟨l.toArray⟩ : ByteArray).size = l.length := rfl
theorem exL (l : List UInt8) (k : Nat) (h : k ≤ l.length) : ∃ p : List UInt8, (⟨l.toArray⟩ : ByteArray).extract 0 k = ⟨p.toArray⟩ ∧ p.length = k := ⟨l.take k, by rw [ex_drop]; rfl, by simp; omega⟩
theorem exR (l : List UInt8) (k : Nat) (h : k ≤ l.length) : ∃ p : List UInt8, (⟨l.toArray⟩ : ByteArray).extract k l.length = ⟨p.toArray⟩ ∧ p.length = l.length - k := ⟨l.drop k, by rw [ex_drop, List.take_length], by simp⟩
set_option maxRecDepth 20000 in
set_option maxHeartbeats 4000000 in
theorem l01Damage_any (S : Nat) (A : Option Addr) (c : Nat) (xs : List Int) (l : List UInt8) (w : World) (h : SrcAt w S A c xs) (hl : l.length ≤ 1000000) :
    Calls Tryd.prog 75 #[.pointer (some ⟨S, 0, none⟩), strL l] w fun e w' => (∃ m : List UInt8, e = .returned (strL m) ∧ m.length ≤ l.length + 1) ∧ SrcAt w' S A c xs ∧ ChgB S (S + 1) w w' := by
  have ltS := h.lt
  have SS := Lib.hid h; have CC := Lib.hid (ChgB.refl S (S + 1) w); clear h
  have W1 : IntKind.i64.wrap ((l.length : Int) + 1) = (l.length : Int) + 1 := IntWalk.i64_in _ (by omega)
  go_enter Tryd.func75, Tryd.ntmps75
  go_wp2_with fail
  refine (l01Next_any S A c xs _ _ SS.out).mono ?_
  rintro e w1 ⟨⟨n1, rfl, n10, n11⟩, s1, ch1⟩
  have CC := Lib.hid ch1.toB; have SS := Lib.hid s1; clear s1 ch1 W1
  obtain ⟨k, rfl⟩ := Int.eq_ofNat_of_zero_le n10
  have zz1 : w.heap.size ≤ w1.heap.size := CC.out.size
  have hk : k ≤ l.length := by omega
  have hk0 : (0 : Int) ≤ (k : Int) := by omega
  have hk1 : (k : Int) ≤ l.length := by omega
  clear n10 n11
  obtain ⟨p, hp, hpl⟩ := exL l k hk
  obtain ⟨q, hq, hql⟩ := exR l k hk
  go_wp2_with fail
  refine (l01Next_any S A c xs _ _ SS.out).mono ?_
  rintro e w2 ⟨⟨n2, rfl, n20, n21⟩, s2, ch2⟩
  have CC := Lib.hid (CC.out.trans ch2.toB); have SS := Lib.hid s2; clear s2 ch2
  have zz2 : S + 1 ≤ w2.heap.size := SS.out.lt
  by_cases k0 : n2 = 0
  · subst k0
    go_wp2
    go_ret
    exact ⟨⟨p, rfl, by omega⟩, SS.out, CC.out⟩
  · have k0' : (n2 == 0) = false := beq_eq_false_iff_ne.2 k0
    by_cases k1 : n2 = 1
    · subst k1
      have DM := Lib.hid (show ∀ n : Int, 0 ≤ n → n < 8 → ∃ u : List UInt8, u.length = 1 ∧ (#[.string ⟨#[48]⟩, .string ⟨#[49]⟩, .string ⟨#[32]⟩, .string ⟨#[45]⟩, .string ⟨#[46]⟩, .string ⟨#[97]⟩, .string ⟨#[10]⟩, .string ⟨#[44]⟩] : Array Value)[n.toNat]? = some (strL u) ∧ ([.string ⟨#[48]⟩, .string ⟨#[49]⟩, .string ⟨#[32]⟩, .string ⟨#[45]⟩, .string ⟨#[46]⟩, .string ⟨#[97]⟩, .string ⟨#[10]⟩, .string ⟨#[44]⟩] : List Value)[n.toNat]? = some (strL u) ∧ ∀ h, ([.string ⟨#[48]⟩, .string ⟨#[49]⟩, .string ⟨#[32]⟩, .string ⟨#[45]⟩, .string ⟨#[46]⟩, .string ⟨#[97]⟩, .string ⟨#[10]⟩, .string ⟨#[44]⟩] : List Value)[n.toNat]'h = strL u from by
        intro n h1 h2
        rcases (show n = 0 ∨ n = 1 ∨ n = 2 ∨ n = 3 ∨ n = 4 ∨ n = 5 ∨ n = 6 ∨ n = 7 by omega) with rfl | rfl | rfl | rfl | rfl | rfl | rfl | rfl
        all_goals exact ⟨_, rfl, rfl, rfl, fun _ => rfl⟩)
      clear k0 k0' n20 n21
      go_wp2_with fail
      go_region_with (first
          | (go_at_call 71; refine (l01Next_any S A c xs _ _ (SS.out.keepS (by repeat' (first | with_reducible exact Keep.refl _ _ _ | with_reducible refine Keep.setB ?_ ?_ _ | with_reducible refine Keep.alloc ?_ ?_ _ | with_reducible refine Keep.drew ?_ | omega | (simp; done) | (simp; omega))))).mono ?_; rintro e w3 ⟨⟨n3, rfl, n30, n31⟩, s3, ch3⟩; have n32 : n3 < 8 := (by omega); obtain ⟨u, hul, hu, hv, hw⟩ := DM.out n3 n30 n32; refine layD_ (T := w3.cell? ⟨w2.heap.size, n3.toNat, none⟩ = some (strL u)) ?_ (fun hcu => ?_); (focus (rw [ch3.old (by omega)]; simp [go_sem, hv]; done)); have CC := Lib.hid ((show ChgB S (S + 1) w _ from (by repeat' (first | with_reducible exact CC.out | with_reducible refine ChgB.alloc ?_ _ | with_reducible refine ChgB.drew ?_ | omega | (simp; done) | (simp; omega)))).trans ch3.toB); have SS := Lib.hid s3; have zs3 := ch3.size; (try simp only [World.size_alloc, World.size_drew] at zs3); have zz3 : S + 1 ≤ w3.heap.size := (by omega); clear zs3 ch3 s3 n31; have z1 : (9223372036854775807 < p.length + u.length) = False := eq_false (by omega); have z2 : (9223372036854775807 < p.length + u.length + q.length) = False := eq_false (by omega))
          | (go_at_call 71; refine (l01Next_any S A c xs _ _ (SS.out.keepS (by repeat' (first | with_reducible exact Keep.refl _ _ _ | with_reducible refine Keep.setB ?_ ?_ _ | with_reducible refine Keep.alloc ?_ ?_ _ | with_reducible refine Keep.drew ?_ | omega | (simp; done) | (simp; omega))))).mono ?_; rintro e w3 ⟨⟨n3, rfl, n30, n31⟩, s3, ch3⟩; have n32 : n3 < 8 := (by omega); obtain ⟨u, hul, hu, hv, hw⟩ := DM.out n3 n30 n32; have CC := Lib.hid ((show ChgB S (S + 1) w _ from (by repeat' (first | with_reducible exact CC.out | with_reducible refine ChgB.alloc ?_ _ | with_reducible refine ChgB.drew ?_ | omega | (simp; done) | (simp; omega)))).trans ch3.toB); have SS := Lib.hid s3; have zs3 := ch3.size; (try simp only [World.size_alloc, World.size_drew] at zs3); have zz3 : S + 1 ≤ w3.heap.size := (by omega); clear zs3 ch3 s3 n31; have z1 : (9223372036854775807 < p.length + u.length) = False := eq_false (by omega); have z2 : (9223372036854775807 < p.length + u.length + q.length) = False := eq_false (by omega)))
      all_goals go_wp2
      all_goals go_ret
      all_goals exact ⟨⟨p ++ u ++ q, by rw [cat, cat]; rfl, by simp only [List.length_append]; omega⟩, SS.out.keepS (by repeat' (first | with_reducible exact Keep.refl _ _ _ | with_reducible refine Keep.setB ?_ ?_ _ | with_reducible refine Keep.alloc ?_ ?_ _ | with_reducible refine Keep.drew ?_ | omega | (simp; done) | (simp; omega))), (by repeat' (first | with_reducible exact CC.out | with_reducible refine ChgB.alloc ?_ _ | with_reducible refine ChgB.drew ?_ | with_reducible refine ChgB.drewN ?_ _ | omega | (simp; done) | (simp; omega)))⟩
    · have k1' : (n2 == 1) = false := beq_eq_false_iff_ne.2 k1
      by_cases k2 : n2 = 2
      · subst k2
        clear k0 k0' k1 k1' n20 n21
        by_cases hlt : (k : Int) < l.length
        · obtain ⟨q', hq', hql'⟩ := exR l (k + 1) (by omega)
          have W2 : IntKind.i64.wrap ((k : Int) + 1) = (k : Int) + 1 := IntWalk.i64_in _ (by omega)
          have i1 : (0 : Int) ≤ (k : Int) + 1 := by omega
          have i2 : (k : Int) + 1 ≤ l.length := by omega
          have i3 : ((k : Int) + 1).toNat = k + 1 := by omega
          have z1 : (9223372036854775807 < p.length + q'.length) = False := eq_false (by omega)
          go_wp2_with fail
          go_region
          all_goals go_wp2
          all_goals go_ret
          all_goals exact ⟨⟨p ++ q', by rw [cat]; rfl, by simp only [List.length_append]; omega⟩, SS.out.keepS (by repeat' (first | with_reducible exact Keep.refl _ _ _ | with_reducible refine Keep.setB ?_ ?_ _ | with_reducible refine Keep.alloc ?_ ?_ _ | with_reducible refine Keep.drew ?_ | omega | (simp; done) | (simp; omega))), (by repeat' (first | with_reducible exact CC.out | with_reducible refine ChgB.alloc ?_ _ | with_reducible refine ChgB.drew ?_ | with_reducible refine ChgB.drewN ?_ _ | omega | (simp; done) | (simp; omega)))⟩
        · go_wp2
          go_ret
          exact ⟨⟨l, rfl, by omega⟩, SS.out, CC.out⟩
      · have k2' : (n2 == 2) = false := beq_eq_false_iff_ne.2 k2
        go_wp2
        go_ret
        exact ⟨⟨l, rfl, by omega⟩, SS.out, CC.out⟩
end

section
set_option linter.unusedSimpArgs false
set_option linter.unusedVariables false

theorem spl_hit {b : UInt8} {p r : List UInt8} (h : ∀ c ∈ p, c ≠ b) : spl b (p ++ b :: r) = p :: spl b r := by unfold spl; rw [splB_hit b p r [] h]; rfl
theorem spl_miss {b : UInt8} {p : List UInt8} (h : ∀ c ∈ p, c ≠ b) : spl b p = [p] := by unfold spl; rw [splB_miss b p [] h]; rfl
theorem split_join (b : UInt8) : ∀ (ws : List (List UInt8)), ws ≠ [] → (∀ w ∈ ws, ∀ c ∈ w, c ≠ b) → spl b (Lib.join ws [b]) = ws := by
  intro ws
  induction ws with
  | nil => intro h _; exact absurd rfl h
  | cons w r ih =>
    intro _ hw
    cases r with
    | nil =>
      show spl b (Lib.join [w] [b]) = [w]
      have e : Lib.join [w] [b] = w := by simp [Lib.join]
      rw [e, spl_miss (hw w (by simp))]
    | cons y r' =>
      have e : Lib.join (w :: y :: r') [b] = w ++ b :: Lib.join (y :: r') [b] := by simp [Lib.join]
      rw [e, spl_hit (hw w (by simp)), ih (by simp) (fun z hz => hw z (by simp [hz]))]
theorem pair_no {b d : UInt8} {x y : Int} (hb : b ≠ 45) (hd : dgB b = false) (hbd : d ≠ b) : ∀ c ∈ Lib.itoa x ++ [d] ++ Lib.itoa y, c ≠ b := by
  intro c hc
  simp only [List.mem_append, List.mem_singleton] at hc
  rcases hc with (hc | hc) | hc
  · exact itoa_no hb hd c hc
  · rw [hc]; exact hbd
  · exact itoa_no hb hd c hc
theorem wP_pair {b : UInt8} {x y : Int} (hb : b ≠ 45) (hd : dgB b = false) (hx : -1000000000000 < x ∧ x < 1000000000000) (hy : -1000000000000 < y ∧ y < 1000000000000) : wP b (Lib.itoa x ++ [b] ++ Lib.itoa y) = some (x, y) := by
  have e : Lib.itoa x ++ [b] ++ Lib.itoa y = Lib.itoa x ++ b :: Lib.itoa y := by simp
  unfold wP
  rw [e, spl_hit (itoa_no hb hd), spl_miss (itoa_no hb hd), rdL_two (rdS_itoa hx.1 hx.2) (rdS_itoa hy.1 hy.2)]
  rfl
/-- the pairs of two rows -/
def prP (ts ls : List Int) : Nat → List (Int × Int)
  | 0 => []
  | k + 1 => prP ts ls k ++ [(ts.getD k 0, ls.getD k 0)]
theorem prP_fst (ts ls : List Int) : ∀ k, k ≤ ts.length → (prP ts ls k).map Prod.fst = ts.take k := by
  intro k
  induction k with
  | zero => intro _; simp [prP]
  | succ k ih =>
    intro hk
    obtain ⟨x, hx⟩ : ∃ x, ts[k]? = some x := ⟨_, List.getElem?_eq_getElem (by omega)⟩
    rw [prP, List.map_append, ih (by omega), List.take_add_one, hx, List.getD_eq_getElem?_getD, hx]
    rfl
theorem prP_snd (ts ls : List Int) : ∀ k, k ≤ ls.length → (prP ts ls k).map Prod.snd = ls.take k := by
  intro k
  induction k with
  | zero => intro _; simp [prP]
  | succ k ih =>
    intro hk
    obtain ⟨x, hx⟩ : ∃ x, ls[k]? = some x := ⟨_, List.getElem?_eq_getElem (by omega)⟩
    rw [prP, List.map_append, ih (by omega), List.take_add_one, hx]
    simp [hx]
theorem pxL_no {ts ls : List Int} : ∀ k, ∀ w ∈ pxL ts ls k, ∀ c ∈ w, c ≠ 44 := by
  intro k
  induction k with
  | zero => intro w hw; simp [pxL] at hw
  | succ k ih =>
    intro w hw
    rw [pxL, List.mem_append] at hw
    rcases hw with hw | hw
    · exact ih w hw
    · simp at hw
      subst hw
      exact pair_no (by decide) (by decide) (by decide)
theorem pxL_rd {ts ls : List Int} (g : ProIs ts ls) : ∀ k, k ≤ ts.length → rdL (wP 58) (pxL ts ls k) = some (prP ts ls k) := by
  intro k
  induction k with
  | zero => intro _; rfl
  | succ k ih =>
    intro hk
    rw [pxL, prP]
    refine rdL_snoc ?_ _ _ (ih (by omega))
    obtain ⟨x, hx⟩ : ∃ x, ts[k]? = some x := ⟨_, List.getElem?_eq_getElem (by omega)⟩
    obtain ⟨y, hy⟩ : ∃ y, ls[k]? = some y := ⟨_, List.getElem?_eq_getElem (by have := g.l3; omega)⟩
    rw [List.getD_eq_getElem?_getD, List.getD_eq_getElem?_getD, hx, hy]
    have := g.t _ _ hx; have := g.v _ _ hy
    exact wP_pair (by decide) (by decide) (by simp; omega) (by simp; omega)
theorem rp_text {ts ls : List Int} (h : profB ts ls = true) : rpT (pxS ts ls) = ts ∧ rpL (pxS ts ls) = ls ∧ rpK (pxS ts ls) = true := by
  have g := pro_is h
  have l1 := g.l1; have l3 := g.l3
  have e : pxS ts ls = Lib.join (pxL ts ls ts.length) [44] := by unfold pxS; rw [if_pos h]
  have hne : pxL ts ls ts.length ≠ [] := fun q => by have := pxL_len ts ls ts.length; rw [q] at this; simp at this; omega
  have hr : rdL (wP 58) (spl 44 (pxS ts ls)) = some (prP ts ls ts.length) := by rw [e, split_join 44 _ hne (pxL_no _)]; exact pxL_rd g _ (Nat.le_refl _)
  have f1 : (prP ts ls ts.length).map Prod.fst = ts := by rw [prP_fst _ _ _ (Nat.le_refl _), List.take_length]
  have f2 : (prP ts ls ts.length).map Prod.snd = ls := by rw [prP_snd _ _ _ (by omega), ← l3, List.take_length]
  obtain ⟨a, b, c⟩ := rp_yes (rp_ok hr (by rw [f1, f2]; exact h))
  exact ⟨by rw [a, f1], by rw [b, f2], c⟩
theorem rp_empty : rpT [] = [] ∧ rpL [] = [] ∧ rpK [] = false := rp_no (rp_none (by rfl))
theorem pxS_ne {ts ls : List Int} (h : profB ts ls = true) : pxS ts ls ≠ [] := fun e => by
  obtain ⟨a, -, -⟩ := rp_text h
  rw [e, rp_empty.1] at a
  have := (pro_is h).l1
  rw [← a] at this
  simp at this
theorem pxS_no {ts ls : List Int} (h : profB ts ls = false) : pxS ts ls = [] := by unfold pxS; rw [if_neg (by rw [h]; decide)]
theorem pxS_len (ts ls : List Int) : (pxS ts ls).length ≤ 1760 := by
  by_cases hp : profB ts ls = true
  · have e : pxS ts ls = Lib.join (pxL ts ls ts.length) [44] := by unfold pxS; rw [if_pos hp]
    rw [e]
    exact pxJ_len (pro_is hp) (Nat.le_refl _)
  · have e : pxS ts ls = [] := by unfold pxS; rw [if_neg hp]
    rw [e]; simp
end

section
set_option linter.unusedSimpArgs false
set_option linter.unusedVariables false
open Go.RowKit

set_option maxRecDepth 100000 in
set_option maxHeartbeats 8000000 in
theorem drawCutProfile_any (A : Option Addr) (c : Nat) (xs : List Int) (w : World) (h : BytesAt w A c xs) :
    Calls Tryd.prog 39 #[.slice A xs.length c] w fun e w' => (∃ A1 c1 A2 c2 ts ls k, e = .returned (.tuple #[profV A1 (List.length ts) c1 A2 (List.length ls) c2, .int .i64 k]) ∧ ResP w' w.heap.size w'.heap.size A1 c1 A2 c2 ts ls) ∧ Below w.heap.size w w' := by
  have H := Lib.hid h; clear h
  go_enter Tryd.func39, Tryd.ntmps39
  go_wp2_with fail
  refine (l01From_any A c xs _ (H.out.below (B := w.heap.size) (by go_grown) (Nat.le_refl _))).mono ?_
  rintro e w3 ⟨rfl, s3, hb3⟩
  obtain ⟨T3, z3, q3, f3, x3, y3⟩ := lkeep (w := w) [w.heap.size] (by first | (simp; done) | (simp; omega)) (by go_grown) hb3
  simp only [World.size_alloc] at s3
  have hS3 := s3.lt
  have l3_0 := x3 (w.heap.size) (by simp)
  have SS := Lib.hid s3; have BB := Lib.hid T3; clear s3 T3 hb3
  go_wp2_with (go_at_call 80; refine (l04DrawKnot_any (w.heap.size + 1) A c xs _ (SS.out.keepS (by repeat' (first | with_reducible exact Keep.refl _ _ _ | with_reducible refine Keep.setB ?_ ?_ _ | with_reducible refine Keep.alloc ?_ ?_ _ | with_reducible refine Keep.drew ?_ | omega | (simp; done) | (simp; omega))))).mono ?_; rintro e w4 ⟨⟨A1, c1, A2, c2, ts, ls, kk, rfl, rp, h1, h2⟩, s4', ch4⟩; have BB := Lib.hid ((show Below w.heap.size w _ from (by first | with_reducible exact BB.out | (have hb_ := BB.out; go_grown; done) | (have hb_ := BB.out; exact bdrewN (by go_grown) _))).trans (ch4.below (by omega) (by first | omega | (simp; done) | (simp; omega)))); have SS := Lib.hid s4'; obtain ⟨z4, q4, f4, x4, y4⟩ := ckeepB [w.heap.size] (by first | (simp; done) | (simp; omega)) ch4; (try simp only [World.size_alloc, World.size_drew, size_set] at z4); clear s4' ch4; have l4_0 := x4 (w.heap.size) (by simp); have RP := Lib.hid rp; clear rp)
  all_goals refine bodyPost_ret (by simp [results, Tryd.results39, go_sem, *] <;> rfl) rfl ?_
  all_goals exact ⟨⟨_, _, _, _, ts, ls, _, rfl, ResP.mono (RP.out.kept (by repeat' (first | with_reducible exact Keep.refl _ _ _ | with_reducible refine Keep.setB ?_ ?_ _ | with_reducible refine Keep.alloc ?_ ?_ _ | with_reducible refine Keep.drew ?_ | omega | (simp; done) | (simp; omega)))) (by first | omega | (simp; done) | (simp; omega)) (by first | omega | (simp; done) | (simp; omega))⟩, (by first | with_reducible exact BB.out | (have hb_ := BB.out; go_grown; done) | (have hb_ := BB.out; exact bdrewN (by go_grown) _))⟩
set_option maxRecDepth 100000 in
set_option maxHeartbeats 8000000 in
theorem drawProfileText_any (A : Option Addr) (c : Nat) (xs : List Int) (w : World) (h : BytesAt w A c xs) :
    Calls Tryd.prog 34 #[.slice A xs.length c] w fun e w' => (∃ A1 c1 A2 c2 ts ls, e = .returned (profV A1 (List.length ts) c1 A2 (List.length ls) c2) ∧ ResP w' w.heap.size w'.heap.size A1 c1 A2 c2 ts ls) ∧ Below w.heap.size w w' := by
  have H := Lib.hid h; clear h
  go_enter Tryd.func34, Tryd.ntmps34
  go_wp2_with fail
  refine (l01From_any A c xs _ (H.out.below (B := w.heap.size) (by go_grown) (Nat.le_refl _))).mono ?_
  rintro e w3 ⟨rfl, s3, hb3⟩
  obtain ⟨T3, z3, q3, f3, x3, y3⟩ := lkeep (w := w) [w.heap.size] (by first | (simp; done) | (simp; omega)) (by go_grown) hb3
  simp only [World.size_alloc] at s3
  have hS3 := s3.lt
  have l3_0 := x3 (w.heap.size) (by simp)
  have SS := Lib.hid s3; have BB := Lib.hid T3; clear s3 T3 hb3
  go_wp2_with (go_at_call 79; refine (l04Draw_any (w.heap.size + 1) A c xs _ (SS.out.keepS (by repeat' (first | with_reducible exact Keep.refl _ _ _ | with_reducible refine Keep.setB ?_ ?_ _ | with_reducible refine Keep.alloc ?_ ?_ _ | with_reducible refine Keep.drew ?_ | omega | (simp; done) | (simp; omega))))).mono ?_; rintro e w4 ⟨⟨A1, c1, A2, c2, ts, ls, rfl, rp, h1, h2, h3, h4⟩, s4', ch4⟩; have BB := Lib.hid ((show Below w.heap.size w _ from (by first | with_reducible exact BB.out | (have hb_ := BB.out; go_grown; done) | (have hb_ := BB.out; exact bdrewN (by go_grown) _))).trans (ch4.below (by omega) (by first | omega | (simp; done) | (simp; omega)))); have SS := Lib.hid s4'; obtain ⟨z4, q4, f4, x4, y4⟩ := ckeepB [w.heap.size] (by first | (simp; done) | (simp; omega)) ch4; (try simp only [World.size_alloc, World.size_drew, size_set] at z4); clear s4' ch4; have l4_0 := x4 (w.heap.size) (by simp); have RP := Lib.hid rp; clear rp)
  all_goals refine bodyPost_ret (by simp [results, Tryd.results34, go_sem, *] <;> rfl) rfl ?_
  all_goals exact ⟨⟨_, _, _, _, ts, ls, rfl, ResP.mono (RP.out.kept (by repeat' (first | with_reducible exact Keep.refl _ _ _ | with_reducible refine Keep.setB ?_ ?_ _ | with_reducible refine Keep.alloc ?_ ?_ _ | with_reducible refine Keep.drew ?_ | omega | (simp; done) | (simp; omega)))) (by first | omega | (simp; done) | (simp; omega)) (by first | omega | (simp; done) | (simp; omega))⟩, (by first | with_reducible exact BB.out | (have hb_ := BB.out; go_grown; done) | (have hb_ := BB.out; exact bdrewN (by go_grown) _))⟩

set_option maxRecDepth 20000 in
set_option maxHeartbeats 4000000 in
theorem drawReadProfile_any (A : Option Addr) (c : Nat) (xs : List Int) (w : World) (h : BytesAt w A c xs) :
    Calls Tryd.prog 37 #[.slice A xs.length c] w fun e w' => (∃ m : List UInt8, e = .returned (strL m) ∧ m.length ≤ 1000001) ∧ Below w.heap.size w w' := by
  have H := Lib.hid h; clear h
  go_enter Tryd.func37, Tryd.ntmps37
  go_wp2_with fail
  refine (l01From_any A c xs _ H.out).mono ?_
  rintro e w3 ⟨rfl, s3, hb3⟩
  have hS3 := s3.lt
  have SS := Lib.hid s3; have BB := Lib.hid hb3; clear s3 hb3
  go_wp2_with fail
  refine (l04Draw_any w.heap.size A c xs _ SS.out).mono ?_
  rintro e w4 ⟨⟨A1, c1, A2, c2, ts, ls, rfl, rp, -⟩, s4, ch4⟩
  have z4 := ch4.size
  have BB := Lib.hid (BB.out.trans (ch4.below (Nat.le_refl _) (by omega))); have RP := Lib.hid rp; have SS := Lib.hid s4; clear rp s4 ch4
  have hlen := pxS_len ts ls
  go_wp2_with fail
  refine (specProfileText_any _ _ _ _ ts ls _ RP.out.at).mono ?_
  rintro e w5 ⟨rfl, hb5⟩
  have z5 := hb5.size
  have BB := Lib.hid (BB.out.trans (hb5.mono (by omega))); have SS := Lib.hid (SS.out.below hb5 (by omega)); clear hb5
  obtain ⟨T, hT⟩ : ∃ T, T = pxS ts ls := ⟨_, rfl⟩
  rw [← hT] at hlen ⊢
  clear hT
  go_wp2_with fail
  refine (l01Next_any w.heap.size A c xs _ _ SS.out).mono ?_
  rintro e w6 ⟨⟨n6, rfl, n60, n61⟩, s6, ch6⟩
  have BB := Lib.hid (BB.out.trans (ch6.toB.below (Nat.le_refl _) (by omega))); have SS := Lib.hid s6; have z6 := ch6.size; clear s6 ch6
  by_cases k0 : n6 = 0
  · subst k0
    go_wp2_with fail
    refine (l01Damage_any w.heap.size A c xs T _ SS.out (by omega)).mono ?_
    rintro e w7 ⟨⟨m, rfl, hm⟩, s7, ch7⟩
    have BB := Lib.hid (BB.out.trans (ch7.below (Nat.le_refl _) (by omega))); clear s7 ch7
    go_wp2
    go_ret
    exact ⟨⟨m, rfl, by omega⟩, BB.out⟩
  · have k0' : (n6 == 0) = false := beq_eq_false_iff_ne.2 k0
    go_wp2
    go_ret
    exact ⟨⟨T, rfl, by omega⟩, BB.out⟩
end
end Go.Proofs.YtebdokpokbcgjaaDoor
