/- Numbers in decimal, by the program and by the reference. -/
import Derived.Test.YtebdokpokbcgjaaDoorShelf
import Derived.Test.YtebdokpokbcgjaaDoorMem
import Derived.Lib.SmallJoins
import Derived.Lib.ItoaLen
import Derived.Lib.AppendIntMem
import Derived.Deep.RegionHeld3
import Derived.IntWalk
namespace Go.Proofs.YtebdokpokbcgjaaDoor
set_option linter.unusedSimpArgs false
set_option linter.unusedVariables false
open Go.RowKit

/-- the text of these bytes -/
abbrev strL (l : List UInt8) : Value := .string ⟨l.toArray⟩
theorem cat (a b : List UInt8) : (⟨a.toArray⟩ : ByteArray) ++ ⟨b.toArray⟩ = ⟨(a ++ b).toArray⟩ := by
  show ByteArray.append _ _ = _
  simp [ByteArray.append, ByteArray.copySlice]
theorem ret_cat {l a b : List UInt8} (h : l = a ++ b) : Ending.returned (Value.string ((⟨a.toArray⟩ : ByteArray) ++ ⟨b.toArray⟩)) = .returned (strL l) := by rw [h, cat]
/-- the library's table of powers of ten reads as laid -/
def TabW (w : World) : Prop := Lib.TabIs Tryd.prog w "internal/strconv.uint64pow10" .u64 Lib.pow10Tab
theorem TabW.below {w w1 : World} {B : Nat} (h : TabW w) (hb : Below B w w1) (hB : w.heap.size ≤ B) : TabW w1 :=
  Lib.tabBelow_of_tabIs h w1 (hb.mono hB)

set_option maxHeartbeats 400000 in
theorem decimal_any (n : Int) (w : World) (ht : TabW w) (h0 : -9223372036854775808 ≤ n) (h1 : n ≤ 9223372036854775807) :
    Calls Tryd.prog 52 #[.int .i64 n] w fun e w' => e = .returned (strL (Lib.itoa n)) ∧ Below w.heap.size w w' := by
  go_enter Tryd.func52, Tryd.ntmps52
  go_wp2_with (go_at_call 87; refine (Tryd.strconv_FormatInt_10 n h0 h1 _ ht).mono ?_; rintro e w' ⟨rfl, k, os, rfl⟩)
  go_ret
  exact ⟨rfl, Lib.below_grow _ _ (Nat.le_refl _) _ _⟩

theorem bcellW {W w1 : World} (hb : Below W.heap.size W w1) : (∀ b o, b < W.heap.size → w1.cell? ⟨b, o, none⟩ = W.cell? ⟨b, o, none⟩) ∧ (∀ b o, b < W.heap.size → w1.frozen? ⟨b, o, none⟩ = W.frozen? ⟨b, o, none⟩) :=
  ⟨fun b o h => hb.cell (p := ⟨b, o, none⟩) h, fun b o h => hb.frozen (p := ⟨b, o, none⟩) h⟩
theorem dec_len {n : Nat} (h : n ≤ 9223372036854775807) : (Lib.decDigits n).length ≤ 20 := by rw [Lib.decDigits_length]; exact Lib.nDigits_le20 n (by omega)
theorem dec_small {n : Nat} (h : n < 10) : Lib.decDigits n = [UInt8.ofNat (48 + n)] := by rw [Lib.decDigits, dif_pos h]
theorem dec_big {n : Nat} (h : ¬ n < 10) : Lib.decDigits n = Lib.decDigits (n / 10) ++ [UInt8.ofNat (48 + n % 10)] := by rw [Lib.decDigits, dif_neg h]

/-- 'string([]byte{d})' -/
theorem conv_one (d : Int) (h0 : 0 ≤ d) (h1 : d ≤ 255) (W : World) (g : Nat) (h : W.cell? ⟨g, 0, none⟩ = some (.int .u8 d)) :
    (convert 45 9 (.slice (some ⟨g, 0, none⟩) 1 1)).run Tryd.prog W = .ok (strL [UInt8.ofNat d.toNat]) W :=
  run_convert_bytes_back W 45 9 5 ⟨g, 0, none⟩ 1 [UInt8.ofNat d.toNat] Tryd.underlying45 Tryd.underlying5 Tryd.underlying9 fun j hj => by
    have e : j = 0 := by simp at hj; exact hj
    subst e
    have q : ((UInt8.ofNat d.toNat).toNat : Int) = d := by simp [UInt8.toNat_ofNat']; omega
    show W.cell? ⟨g, 0, none⟩ = _
    rw [h]
    simp only [List.getElem_cons_zero]
    rw [q]

set_option maxRecDepth 20000 in
set_option maxHeartbeats 400000 in
theorem l01Dec_any : ∀ (n : Nat) (w : World), n ≤ 9223372036854775807 →
    Calls Tryd.prog 49 #[.int .i64 (n : Int)] w fun e w' => e = .returned (strL (Lib.decDigits n)) ∧ Below w.heap.size w w' := by
  intro n
  induction n using Nat.strongRecOn with
  | _ n ih =>
    intro w hn
    by_cases h : n < 10
    · have e := dec_small h
      have hc := fun W g => conv_one (48 + (n : Int)) (by omega) (by omega) W g
      have IH := Lib.hid ih; clear ih
      go_enter Tryd.func49, Tryd.ntmps49
      go_wp2
      go_ret
      exact ⟨by rw [e]; rfl, by go_grown⟩
    · have e := dec_big h
      obtain ⟨d, hd⟩ : ∃ d : Int, d = ((n % 10 : Nat) : Int) := ⟨_, rfl⟩
      obtain ⟨m, hm⟩ : ∃ m : Nat, m = n / 10 := ⟨_, rfl⟩
      have hd0 : 0 ≤ d := by omega
      have hd1 : d < 10 := by omega
      have hm0 : m < n := by omega
      have hc := fun W g => conv_one (48 + d) (by omega) (by omega) W g
      have hq : (n : Int).tdiv 10 = (m : Int) := by rw [Int.tdiv_eq_ediv_of_nonneg (by omega)]; omega
      have hr : (n : Int).tmod 10 = d := by rw [Int.tmod_eq_emod_of_nonneg (by omega)]; omega
      have E := Lib.hid (show Lib.decDigits n = Lib.decDigits m ++ [UInt8.ofNat (48 + d).toNat] by rw [e, ← hm, show (48 + d).toNat = 48 + n % 10 by omega])
      have IH := Lib.hid (fun W => ih m hm0 W (by omega)); clear ih e hd hm
      have hl := dec_len (n := m) (by omega)
      have hlen : (9223372036854775807 < (Lib.decDigits m).length + 1) = False := eq_false (by omega)
      have W1 : IntKind.i64.wrap (m : Int) = (m : Int) := IntWalk.i64_in _ (by omega)
      have W2 : IntKind.i64.wrap (48 + d) = 48 + d := IntWalk.i64_in _ (by omega)
      have W3 : IntKind.u8.wrap (48 + d) = 48 + d := by rw [IntKind.wrap_u8]; omega
      have W4 : IntKind.i64.wrap d = d := IntWalk.i64_in _ (by omega)
      go_enter Tryd.func49, Tryd.ntmps49
      go_wp2_with fail
      go_region_law ((go_simp; go_at_call 49; refine (IH.out _).mono ?_; rintro e_ w1 ⟨rfl, hb1⟩; obtain ⟨hc1, hf1⟩ := bcellW hb1; have hz1 := hb1.size; (try simp only [World.size_alloc, World.size_drew] at hz1 hc1); (try (have hx1 := hc1 w.heap.size 0 (by omega); simp [*, go_sem] at hx1)); have B1 := Lib.hid ((show Below w.heap.size w _ from (by first | exact Below.refl _ _ | (go_grown; done))).trans (hb1.mono (by first | omega | (simp; done) | (simp; omega)))); clear hb1 hf1; (try go_wp2_with fail)))
      all_goals go_wp2
      all_goals go_ret
      all_goals exact ⟨ret_cat E.out, by have hb_ := B1.out; first | with_reducible exact hb_ | (go_grown; done) | exact bdrewN hb_ _⟩

theorem itoa_of {n : Int} (h : 0 ≤ n) : Lib.itoa n = Lib.decDigits n.toNat := by unfold Lib.itoa; rw [if_neg (by omega)]
theorem itoa_minus {n : Int} (h : n < 0) : Lib.itoa n = 45 :: Lib.decDigits n.natAbs := by unfold Lib.itoa; rw [if_pos h]
theorem itoa_len {n : Int} (h0 : -9223372036854775808 ≤ n) (h1 : n ≤ 9223372036854775807) : (Lib.itoa n).length ≤ 21 := Lib.itoa_length_le n h0 h1

theorem l01Dec_int (n : Int) (w : World) (h0 : 0 ≤ n) (h1 : n ≤ 9223372036854775807) :
    Calls Tryd.prog 49 #[.int .i64 n] w fun e w' => e = .returned (strL (Lib.itoa n)) ∧ Below w.heap.size w w' := by
  have h := l01Dec_any n.toNat w (by omega)
  rw [show ((n.toNat : Nat) : Int) = n by omega] at h
  rw [itoa_of h0]
  exact h

set_option maxRecDepth 20000 in
set_option maxHeartbeats 400000 in
theorem l01Number_any (n : Int) (w : World) (h0 : -9223372036854775807 ≤ n) (h1 : n ≤ 9223372036854775807) :
    Calls Tryd.prog 50 #[.int .i64 n] w fun e w' => e = .returned (strL (Lib.itoa n)) ∧ Below w.heap.size w w' := by
  by_cases h : n < 0
  · have e : Lib.itoa n = 45 :: Lib.itoa (-n) := by rw [itoa_minus h, itoa_of (by omega)]; congr 2; omega
    have hl := itoa_len (n := -n) (by omega) (by omega)
    have hlen : (9223372036854775807 < 1 + (Lib.itoa (-n)).length) = False := eq_false (by omega)
    have W1 : IntKind.i64.wrap (-n) = -n := IntWalk.i64_in _ (by omega)
    have E := Lib.hid e; clear e
    go_enter Tryd.func50, Tryd.ntmps50
    go_wp2_with (go_at_call 49; refine (l01Dec_int (-n) _ (by omega) (by omega)).mono ?_; rintro e_ w1 ⟨rfl, hb1⟩)
    go_ret
    exact ⟨ret_cat (a := [45]) E.out, by have hb_ := hb1; first | exact hb_ | (go_grown; done)⟩
  · go_enter Tryd.func50, Tryd.ntmps50
    go_wp2_with (go_at_call 49; refine (l01Dec_int n _ (by omega) (by omega)).mono ?_; rintro e_ w1 ⟨rfl, hb1⟩)
    go_ret
    exact ⟨rfl, by have hb_ := hb1; first | exact hb_ | (go_grown; done)⟩
end Go.Proofs.YtebdokpokbcgjaaDoor
