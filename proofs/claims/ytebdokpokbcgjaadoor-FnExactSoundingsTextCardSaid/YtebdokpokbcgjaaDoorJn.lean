/- Numbers with a separator between them, by the program and by the reference. -/
import Derived.Test.YtebdokpokbcgjaaDoorTxt0
namespace Go.Proofs.YtebdokpokbcgjaaDoor
set_option linter.unusedSimpArgs false
set_option linter.unusedVariables false
open Go.RowKit

/-- the first numbers with a separator between them -/
def jnS (xs : List Int) (sep : List UInt8) (k : Nat) : List UInt8 := Lib.join ((xs.take k).map Lib.itoa) sep
theorem jn_map {xs : List Int} {k : Nat} {x : Int} (h : xs[k]? = some x) : (xs.take (k + 1)).map Lib.itoa = (xs.take k).map Lib.itoa ++ [Lib.itoa x] := by
  rw [List.take_add_one, h, List.map_append]; rfl
theorem jn_zero {xs : List Int} {sep : List UInt8} {k : Nat} {x : Int} (h0 : k = 0) (h : xs[k]? = some x) : jnS xs sep (k + 1) = jnS xs sep k ++ Lib.itoa x := by
  have e : (xs.take k).map Lib.itoa = [] := by rw [h0]; rfl
  unfold jnS
  rw [jn_map h, join_snoc, if_pos e, e]
  rfl
theorem jn_next {xs : List Int} {sep : List UInt8} {k : Nat} {x : Int} (h0 : 0 < k) (h : xs[k]? = some x) : jnS xs sep (k + 1) = jnS xs sep k ++ sep ++ Lib.itoa x := by
  have hk := (List.getElem?_eq_some_iff.1 h).1
  have e : (xs.take k).map Lib.itoa ≠ [] := fun q => by have := congrArg List.length q; rw [List.length_map, List.length_take, List.length_nil] at this; omega
  unfold jnS
  rw [jn_map h, join_snoc, if_neg e]
theorem jn_all (xs : List Int) (sep : List UInt8) : jnS xs sep xs.length = Lib.join (xs.map Lib.itoa) sep := by unfold jnS; rw [List.take_length]
theorem jn_len {xs : List Int} {sep : List UInt8} {k : Nat} (hb : ∀ (k : Nat) x, xs[k]? = some x → -9223372036854775807 ≤ x ∧ x ≤ 9223372036854775807) (hl : xs.length ≤ 1000) (hs : sep.length ≤ 10) : (jnS xs sep k).length ≤ 31000 := by
  have h := join_len (sep := sep) (m := 21) ((xs.take k).map Lib.itoa) (fun l hl' => by
    rw [List.mem_map] at hl'
    obtain ⟨x, hx, rfl⟩ := hl'
    obtain ⟨i, hi, e⟩ := List.mem_iff_getElem.1 (List.mem_of_mem_take hx)
    have := hb i x (by rw [List.getElem?_eq_getElem hi, e])
    exact itoa_len (by omega) (by omega))
  rw [List.length_map, List.length_take] at h
  have h2 : min k xs.length * (21 + sep.length) ≤ 1000 * 31 := Nat.mul_le_mul (by omega) (by omega)
  unfold jnS
  omega
theorem str_two {a b c : List UInt8} (h : a = b ++ c) : Value.string ((⟨b.toArray⟩ : ByteArray) ++ ⟨c.toArray⟩) = strL a := by rw [cat, h]
theorem str_three {a b c d : List UInt8} (h : a = b ++ c ++ d) : Value.string ((⟨b.toArray⟩ : ByteArray) ++ ⟨c.toArray⟩ ++ ⟨d.toArray⟩) = strL a := by rw [cat, cat, h]

set_option maxRecDepth 20000 in
set_option maxHeartbeats 2000000 in
theorem l01Join_any (A : Option Addr) (c : Nat) (xs : List Int) (sep : List UInt8) (w : World) (hx : IntsAt w A c xs) (hl : xs.length ≤ 1000) (hs : sep.length ≤ 10)
    (hb : ∀ (k : Nat) x, xs[k]? = some x → -9223372036854775807 ≤ x ∧ x ≤ 9223372036854775807) :
    Calls Tryd.prog 56 #[.slice A xs.length c, strL sep] w fun e w' => e = .returned (strL (Lib.join (xs.map Lib.itoa) sep)) ∧ Below w.heap.size w w' := by
  have HX := Lib.hid hx; have HB := Lib.hid hb; clear hx hb
  have hln := fun k => jn_len (k := k) HB.out hl hs
  have HL := Lib.hid hln; clear hln
  go_enter Tryd.func56, Tryd.ntmps56
  go_wp2
  go_loopw [5, 6] (fun o i wr => Below w.heap.size w wr ∧ ∃ k : Nat, k ≤ xs.length ∧ i = .int .i64 k ∧ o = strL (jnS xs sep k)) (fun _ i _ => xs.length - (intOf i).toNat)
  case atStart => exact ⟨by go_grown, 0, by omega, rfl, rfl⟩
  case round =>
    obtain ⟨Br, k, hk, rfl, rfl⟩ := hrel
    have tr := bold Br
    have sr := Br.size
    have HBr := Lib.hid Br; clear Br
    by_cases hlt : k < xs.length
    · obtain ⟨b, off, x, rfl, hb0, hxk, c0⟩ := HX.out.at_ hlt
      have bx := HB.out _ _ hxk
      have cx := (tr _ (off + k) hb0).trans c0
      have HK := Lib.hid hxk; clear hxk tr
      have lT := itoa_len (n := x) (by omega) (by omega)
      have lO := HL.out k
      have kk0 : (0 : Int) ≤ k := by omega
      have kk1 : (k : Int) < xs.length := by omega
      have hb1 : b < wr.heap.size := by omega
      have CY := Lib.hid (fun W => l01Number_any x W bx.1 bx.2)
      by_cases hk0 : k = 0
      · have HE := Lib.hid (jn_zero (sep := sep) hk0 HK.out)
        have hkp : ((0 : Int) < (k : Int)) = False := eq_false (by omega)
        have hkq : (0 < k) = False := eq_false (by omega)
        clear hk0
        obtain ⟨O, hO⟩ : ∃ O, O = jnS xs sep k := ⟨_, rfl⟩
        obtain ⟨T, hT⟩ : ∃ O, O = Lib.itoa x := ⟨_, rfl⟩
        rw [← hO] at lO HE ⊢; rw [← hT] at lT HE CY; clear hO hT
        have z1 : (9223372036854775807 < O.length + T.length) = False := eq_false (by omega)
        go_wp2_with (go_at_call 50; refine (CY.out _).mono ?_; rintro e_ w1 ⟨rfl, hb1_⟩)
        go_roundw
        case rel => exact ⟨HBr.out.trans (hb1_.mono (by omega)), k + 1, by omega, by go_num, str_two HE.out⟩
        case measure => simp [intOf]; omega
      · have HE := Lib.hid (jn_next (sep := sep) (by omega) HK.out)
        have hkp : (0 : Int) < (k : Int) := by omega
        obtain ⟨O, hO⟩ : ∃ O, O = jnS xs sep k := ⟨_, rfl⟩
        obtain ⟨T, hT⟩ : ∃ O, O = Lib.itoa x := ⟨_, rfl⟩
        rw [← hO] at lO HE ⊢; rw [← hT] at lT HE CY; clear hO hT
        have z1 : (9223372036854775807 < O.length + sep.length) = False := eq_false (by omega)
        have z2 : (9223372036854775807 < O.length + sep.length + T.length) = False := eq_false (by omega)
        go_wp2_with (go_at_call 50; refine (CY.out _).mono ?_; rintro e_ w1 ⟨rfl, hb1_⟩)
        go_roundw
        case rel => exact ⟨HBr.out.trans (hb1_.mono (by omega)), k + 1, by omega, by go_num, str_three HE.out⟩
        case measure => simp [intOf]; omega
    · obtain rfl : k = xs.length := by omega
      go_wp2
      go_ret
      exact ⟨congrArg (fun l => Ending.returned (strL l)) (jn_all xs sep), HBr.out⟩

set_option maxRecDepth 20000 in
set_option maxHeartbeats 2000000 in
theorem implJoin_any (A : Option Addr) (c : Nat) (xs : List Int) (sep : List UInt8) (w : World) (ht : TabW w) (hx : IntsAt w A c xs) (h0 : 0 < xs.length) (hl : xs.length ≤ 1000) (hs : sep.length ≤ 10)
    (hb : ∀ (k : Nat) x, xs[k]? = some x → -9223372036854775807 ≤ x ∧ x ≤ 9223372036854775807) :
    Calls Tryd.prog 59 #[.slice A xs.length c, strL sep] w fun e w' => e = .returned (strL (Lib.join (xs.map Lib.itoa) sep)) ∧ Below w.heap.size w w' := by
  obtain ⟨i0, hi, hz0, hz1, hz2⟩ := info_parts infoStr
  have hmk := fun W => make_rowN (P := Tryd.prog) 68 9 i0 _ Tryd.underlying68 hi hz0 .i64 .i64 xs.length xs.length (Nat.le_refl _) (by rw [hz2]; omega) (by omega) W
  have hll := jn_len (k := xs.length) hb hl hs
  rw [jn_all] at hll
  have HX := Lib.hid hx; have HB := Lib.hid hb; clear hx hb
  have HZ := Lib.hid hz1; clear hi hz0 hz1 hz2
  go_enter Tryd.func59, Tryd.ntmps59
  go_wp2
  go_loopw [13] (fun i wr => Below w.heap.size w wr ∧ Own wr w.heap.size w.heap.size xs.length ∧ ∃ k : Nat, k ≤ xs.length ∧ i = .int .i64 k ∧ ∀ j x, j < k → xs[j]? = some x → wr.cell? ⟨w.heap.size, j, none⟩ = some (strL (Lib.itoa x))) (fun i _ => xs.length - (intOf i).toNat)
  case atStart => exact ⟨by go_grown, own_made _ _ _ (by rw [size_madeCells, HZ.out, Nat.mul_one]) (Nat.le_refl _), 0, by omega, rfl, fun j s h => absurd h (by omega)⟩
  case round =>
    obtain ⟨Br, Ow, k, hk, rfl, ha⟩ := hrel
    have HA := Lib.hid ha; clear ha
    have tr := bold Br
    have sr := Br.size
    have HO := Lib.hid Ow
    have TB := Lib.hid (ht.below Br (Nat.le_refl _))
    have HBr := Lib.hid Br; clear Br
    by_cases hlt : k < xs.length
    · obtain ⟨b, off, x, rfl, hb0, hxk, c0⟩ := HX.out.at_ hlt
      have bx := HB.out _ _ hxk
      have HK := Lib.hid hxk; clear hxk
      have CY := Lib.hid (fun (W : World) (hW : Below wr.heap.size wr W) => decimal_any x W (TB.out.below hW (Nat.le_refl _)) (by omega) bx.2)
      have cx := (tr _ (off + k) hb0).trans c0
      have kk0 : (0 : Int) ≤ k := by omega
      have kk1 : (k : Int) < xs.length := by omega
      have hb1 : b < wr.heap.size := by omega
      have sl := Ow.lt
      obtain ⟨T, hT⟩ : ∃ O, O = Lib.itoa x := ⟨_, rfl⟩
      rw [← hT] at CY
      clear Ow tr
      go_wp2_with (go_at_call 52; refine (CY.out _ (by first | exact Below.refl _ _ | (go_grown; done))).mono ?_; rintro e_ w1 ⟨rfl, hb1_⟩; have HO1 := Lib.hid (HO.out.below hb1_ sl); have hf1 := HO1.out.fr; obtain ⟨u0, g0⟩ := HO1.out.some_ (o := k) (by omega); have hz1 := hb1_.size; have T1 := Lib.hid hb1_; clear hb1_)
      go_roundw
      case rel =>
        refine ⟨by have hb_ := HBr.out.trans (T1.out.mono (show w.heap.size ≤ wr.heap.size by omega)); go_grown, HO1.out.set _, k + 1, by omega, by go_num, fun j s hj hs => ?_⟩
        rw [HO1.out.cell_set (by omega)]
        by_cases e : j = k
        · subst e
          have hs' := HK.out.symm.trans hs
          injection hs' with hs'
          subst hs'
          simp [hT]
        · rw [if_neg e]
          exact (bAt T1.out (b := w.heap.size) (o := j) sl).trans (HA.out j s (by omega) hs)
      case measure => simp [intOf]; omega
    · obtain rfl : k = xs.length := by omega
      have HJ := Lib.hid (show ∀ (j : Nat) (x : ByteArray), (xs.map fun z => (⟨(Lib.itoa z).toArray⟩ : ByteArray))[j]? = some x → wr.cell? ⟨w.heap.size, 0 + j, none⟩ = some (.string x) from fun j x hx => by
        rw [List.getElem?_map] at hx
        cases hj : xs[j]? with
        | none => rw [hj] at hx; simp at hx
        | some z =>
          rw [hj] at hx
          simp at hx
          subst hx
          rw [Nat.zero_add]
          exact HA.out j z (by have := (List.getElem?_eq_some_iff.1 hj).1; omega) hj)
      have e1 : (xs.map fun z => (⟨(Lib.itoa z).toArray⟩ : ByteArray)).length = xs.length := List.length_map ..
      have e2 : (xs.map fun z => (⟨(Lib.itoa z).toArray⟩ : ByteArray)).map (·.data.toList) = xs.map Lib.itoa := by rw [List.map_map]; rfl
      have q := Tryd.strings_Join w.heap.size 0 xs.length (xs.map fun z => (⟨(Lib.itoa z).toArray⟩ : ByteArray)) ⟨sep.toArray⟩ wr HJ.out HO.out.lt (by rw [e1]; omega) (by rw [e1]; exact Nat.le_refl _) (by rw [e2]; show (Lib.join (xs.map Lib.itoa) sep).length ≤ _; omega)
      rw [e1, e2] at q
      have HQ := Lib.hid q; clear q e1 e2 Ow
      go_wp2_with (go_at_call 53; refine HQ.out.mono ?_; rintro e_ w5 ⟨rfl, hb5⟩)
      go_ret
      exact ⟨rfl, HBr.out.trans (hb5.mono (by omega))⟩
end Go.Proofs.YtebdokpokbcgjaaDoor
