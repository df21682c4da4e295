/- Numbers read, by the program and by the reference. -/
import Derived.Test.YtebdokpokbcgjaaDoorRd0
import Derived.Test.YtebdokpokbcgjaaDoorShelf2
import Derived.Test.YtebdokpokbcgjaaDoorTxt0
import Derived.Lib.AtoiErrMem
import Derived.BigQuiet
namespace Go.Proofs.YtebdokpokbcgjaaDoor
set_option linter.unusedSimpArgs false
set_option linter.unusedVariables false
open Go.RowKit

theorem cell_lt {w : World} {b o : Nat} {v : Value} (h : w.cell? ⟨b, o, none⟩ = some v) : b < w.heap.size := by
  rcases Nat.lt_or_ge b w.heap.size with q | q
  · exact q
  · simp [World.cell?, Array.getElem?_eq_none q] at h
/-- what the library's readers ask of the world -/
structure RdW (w : World) : Prop where
  tab : TabW w
  ml : ∃ m : Int, w.cell? ⟨0, 0, none⟩ = some (.int .i64 m)
  es : ∃ ev, w.cell? ⟨2, 0, none⟩ = some ev ∧ (ev = .nilIface ∨ ∃ te pe, ev = .iface te pe)
  er : ∃ ev, w.cell? ⟨3, 0, none⟩ = some ev ∧ (ev = .nilIface ∨ ∃ te pe, ev = .iface te pe)
theorem RdW.below {w w1 : World} {B : Nat} (h : RdW w) (hb : Below B w w1) (hB : w.heap.size ≤ B) : RdW w1 := by
  obtain ⟨m, hm⟩ := h.ml
  obtain ⟨e1, h1, k1⟩ := h.es
  obtain ⟨e2, h2, k2⟩ := h.er
  have a := cell_lt hm; have b := cell_lt h1; have c := cell_lt h2
  exact ⟨h.tab.below hb hB, ⟨m, (bAt hb (by omega)).trans hm⟩, ⟨e1, (bAt hb (by omega)).trans h1, k1⟩, ⟨e2, (bAt hb (by omega)).trans h2, k2⟩⟩
theorem parse_bd {l : List UInt8} {v : Int} (h : Lib.parseIntB 64 l = .ok v) : -9223372036854775808 ≤ v ∧ v ≤ 9223372036854775807 := by
  unfold Lib.parseIntB at h
  split at h
  · cases h
  · dsimp only at h
    split at h
    · cases h
    · cases h
    · rename_i u _
      split at h
      · cases h
      · split at h
        · cases h
        · rename_i h1 h2
          injection h with h
          subst h
          split
          · rename_i hn
            have : ¬ 2 ^ 63 < u := fun q => h2 ⟨hn, q⟩
            omega
          · rename_i hn
            have : ¬ 2 ^ 63 ≤ u := fun q => h1 ⟨hn, q⟩
            omega
set_option maxRecDepth 20000 in
set_option maxHeartbeats 2000000 in
theorem readNumber_any (l : List UInt8) (w : World) (hl : l.length ≤ 2000000) (hr : RdW w) :
    Calls Tryd.prog 65 #[strL l] w fun e w' => (∃ n, e = .returned (.tuple #[.int .i64 n, .bool (rdZ l).isSome]) ∧ ∀ v, rdZ l = some v → n = v) ∧ Below w.heap.size w w' := by
  have hsz : (⟨l.toArray⟩ : ByteArray).size = l.length := rfl
  cases hp : Lib.parseIntB 64 l with
  | ok v =>
    obtain ⟨v0, v1⟩ := parse_bd hp
    have HR := Lib.hid hr; clear hr
    have P := Lib.hid (show ∀ W, Calls Tryd.prog 98 #[strL l, .int .i64 10, .int .i64 64] W fun e w' => e = .returned (.tuple #[.int .i64 v, .nilIface]) ∧ Below W.heap.size W w' from fun W =>
      (Tryd.strconv_ParseInt_10_at64_ok ⟨l.toArray⟩ (by rw [hsz]; omega) v hp W).mono fun e w' ⟨h1, h2⟩ => ⟨h1, by
        rcases h2 with rfl | ⟨t, rfl⟩
        · exact Below.refl _ _
        · exact Lib.bytesWorld_below W _ t⟩)
    obtain ⟨T, hT⟩ : ∃ T, T = Lib.itoa v := ⟨_, rfl⟩
    have D := Lib.hid (show ∀ W, Below w.heap.size w W → Calls Tryd.prog 52 #[.int .i64 v] W fun e w' => e = .returned (strL T) ∧ Below W.heap.size W w' from fun W hW => by rw [hT]; exact decimal_any v W (HR.out.tab.below hW (Nat.le_refl _)) v0 v1)
    have hz : rdZ l = if T = l then some v else none := by unfold rdZ; rw [hp, hT]
    by_cases he : T = l
    · have hb : (T == l) = true := beq_iff_eq.2 he
      rw [if_pos he] at hz
      have HZ := Lib.hid hz; clear hz he hT hp
      go_enter Tryd.func65, Tryd.ntmps65
      go_wp2_with (first
        | (go_at_call 98; refine (P.out _).mono ?_; rintro e_ w1 ⟨rfl, hb1⟩)
        | (go_at_call 52; refine (D.out _ hb1).mono ?_; rintro e_ w2 ⟨rfl, hb2⟩))
      go_ret2
      exact ⟨⟨v, by rw [HZ.out]; rfl, fun z hz => by rw [HZ.out] at hz; injection hz⟩, hb1.trans (hb2.mono hb1.size)⟩
    · have hb : (T == l) = false := beq_eq_false_iff_ne.2 he
      rw [if_neg he] at hz
      have HZ := Lib.hid hz; clear hz he hT hp
      go_enter Tryd.func65, Tryd.ntmps65
      go_wp2_with (first
        | (go_at_call 98; refine (P.out _).mono ?_; rintro e_ w1 ⟨rfl, hb1⟩)
        | (go_at_call 52; refine (D.out _ hb1).mono ?_; rintro e_ w2 ⟨rfl, hb2⟩))
      go_ret2
      exact ⟨⟨v, by rw [HZ.out]; rfl, fun z hz => by rw [HZ.out] at hz; cases hz⟩, hb1.trans (hb2.mono hb1.size)⟩
  | range =>
    obtain ⟨ev, h1, h2⟩ := hr.er
    have HZ := Lib.hid (show rdZ l = none by unfold rdZ; rw [hp])
    have P := Lib.hid ((Tryd.strconv_ParseInt_10_at64_range ⟨l.toArray⟩ (by rw [hsz]; omega) hp ev w h1 h2).mono fun e w' ⟨N, h1, h2, h3, h4⟩ => (show (∃ x te N, e = Ending.returned (.tuple #[.int .i64 x, .iface te (.pointer (some ⟨N, 0, none⟩))])) ∧ Below w.heap.size w w' from ⟨⟨_, _, N, h1⟩, h4⟩))
    clear h1 h2 hp
    go_enter Tryd.func65, Tryd.ntmps65
    go_wp2_with (go_at_call 98; refine P.out.mono ?_; rintro e_ w1 ⟨⟨x, te, N, rfl⟩, hb1⟩)
    go_ret2
    exact ⟨⟨_, by rw [HZ.out]; rfl, fun z hz => by rw [HZ.out] at hz; cases hz⟩, hb1⟩
  | _ =>
    obtain ⟨ev, h1, h2⟩ := hr.es
    have HZ := Lib.hid (show rdZ l = none by unfold rdZ; rw [hp])
    have P := Lib.hid ((Tryd.strconv_ParseInt_10_at64_syntax ⟨l.toArray⟩ (by rw [hsz]; omega) (fun v q => by rw [show (⟨l.toArray⟩ : ByteArray).data.toList = l from rfl, hp] at q; cases q) (fun q => by rw [show (⟨l.toArray⟩ : ByteArray).data.toList = l from rfl, hp] at q; cases q) ev w h1 h2).mono fun e w' ⟨N, h1, h2, h3, h4⟩ => (show (∃ te N, e = Ending.returned (.tuple #[.int .i64 0, .iface te (.pointer (some ⟨N, 0, none⟩))])) ∧ Below w.heap.size w w' from ⟨⟨_, N, h1⟩, h4⟩))
    clear h1 h2 hp
    go_enter Tryd.func65, Tryd.ntmps65
    go_wp2_with (go_at_call 98; refine P.out.mono ?_; rintro e_ w1 ⟨⟨te, N, rfl⟩, hb1⟩)
    go_ret2
    exact ⟨⟨_, by rw [HZ.out]; rfl, fun z hz => by rw [HZ.out] at hz; cases hz⟩, hb1⟩

theorem byte_at {l : List UInt8} {k : Nat} (h : k < l.length) : ∃ x, l[k]? = some x ∧ ∀ hlt, (⟨l.toArray⟩ : ByteArray)[k]'hlt = x :=
  ⟨l[k], List.getElem?_eq_getElem h, fun _ => rfl⟩
/-- the reference's number without a sign -/
theorem rdV_none {l : List UInt8} (h : ¬ (1 ≤ l.length ∧ l.length ≤ 12 ∧ l.all dgB = true)) : rdV l = none := by
  unfold rdV
  rw [if_neg (fun q => h ⟨q.1, q.2.1, q.2.2.1⟩)]
theorem val_bd {l : List UInt8} {k : Nat} (h : l.length ≤ 12) (hd : (l.take k).all dgB = true) : valF 0 (l.take k) < 1000000000000 := by
  have h1 := val_lt (l.take k) 0 (List.all_eq_true.1 hd)
  have h2 : 10 ^ (l.take k).length ≤ 10 ^ 12 := Nat.pow_le_pow_right (by omega) (by rw [List.length_take]; omega)
  omega
theorem val_next {l : List UInt8} {k : Nat} {c : UInt8} (h : l[k]? = some c) : valF 0 (l.take (k + 1)) = vstep (valF 0 (l.take k)) c := by
  unfold valF
  rw [List.take_add_one, h, List.foldl_append]
  rfl

set_option maxRecDepth 20000 in
set_option maxHeartbeats 2000000 in
theorem l01Value_any (l : List UInt8) (w : World) (hl : l.length ≤ 2000000) :
    Calls Tryd.prog 107 #[strL l] w fun e w' => (∃ n : Nat, e = .returned (.tuple #[.int .i64 (n : Int), .bool (rdV l).isSome]) ∧ n < 1000000000000 ∧ ∀ v, rdV l = some v → n = v) ∧ Below w.heap.size w w' := by
  by_cases h1 : l.length < 1
  · have HZ := Lib.hid (rdV_none (l := l) (fun q => by omega))
    have i1 : (l.length : Int) < 1 := by omega
    go_enter Tryd.func107, Tryd.ntmps107
    go_wp2
    go_ret2
    exact ⟨⟨0, by rw [HZ.out]; rfl, by omega, fun z hz => by rw [HZ.out] at hz; cases hz⟩, by go_grown⟩
  · by_cases h2 : 12 < l.length
    · have HZ := Lib.hid (rdV_none (l := l) (fun q => by omega))
      have i1 : ((l.length : Int) < 1) = False := eq_false (by omega)
      have i2 : (12 : Int) < l.length := by omega
      clear h1 h2
      go_enter Tryd.func107, Tryd.ntmps107
      go_wp2
      go_ret2
      exact ⟨⟨0, by rw [HZ.out]; rfl, by omega, fun z hz => by rw [HZ.out] at hz; cases hz⟩, by go_grown⟩
    · have i1 : ((l.length : Int) < 1) = False := eq_false (by omega)
      have i2 : ((12 : Int) < l.length) = False := eq_false (by omega)
      have h3 : l.length ≤ 12 := by omega
      have h4 : 1 ≤ l.length := by omega
      clear h1 h2
      go_enter Tryd.func107, Tryd.ntmps107
      go_wp2
      go_loop [4, 5] (fun n i => ∃ k : Nat, k ≤ l.length ∧ i = .int .i64 k ∧ n = .int .i64 ((valF 0 (l.take k) : Nat) : Int) ∧ (l.take k).all dgB = true) (fun _ i => l.length - (intOf i).toNat)
      case atStart => exact ⟨0, by omega, rfl, rfl, rfl⟩
      case round =>
        obtain ⟨k, hk, rfl, rfl, ha⟩ := hrel
        have HA := Lib.hid ha
        have hvb := val_bd (k := k) h3 ha
        clear ha
        by_cases hlt : k < l.length
        · obtain ⟨x, hx, hgx⟩ := byte_at hlt
          have HX := Lib.hid hx; clear hx
          have kk0 : (0 : Int) ≤ k := by omega
          have kk1 : (k : Int) < l.length := by omega
          have hx2 : x.toNat < 256 := x.toNat_lt
          by_cases hd : dgB x = true
          · have hd' := hd
            unfold dgB at hd'
            simp only [Bool.and_eq_true, decide_eq_true_eq] at hd'
            have d1 : ((x.toNat : Int) < 48) = False := eq_false (by omega)
            have d2 : ((57 : Int) < x.toNat) = False := eq_false (by omega)
            have HD := Lib.hid hd; clear hd
            go_wp2
            go_round
            case rel =>
              refine ⟨k + 1, by omega, by go_num, ?_, ?_⟩
              · rw [val_next HX.out]
                unfold vstep
                congr 1
                omega
              · rw [List.take_add_one, HX.out, List.all_append, HA.out]
                simp [HD.out]
            case measure => simp [intOf]; omega
          · have HZ := Lib.hid (rdV_none (l := l) (fun q => hd (List.all_eq_true.1 q.2.2 x (List.mem_of_getElem? HX.out))))
            have hd2 : x.toNat < 48 ∨ 57 < x.toNat := by
              unfold dgB at hd
              simp only [Bool.and_eq_true, decide_eq_true_eq] at hd
              omega
            clear hd
            by_cases hq : (x.toNat : Int) < 48
            · go_wp2
              go_ret2
              exact ⟨⟨0, by rw [HZ.out]; rfl, by omega, fun z hz => by rw [HZ.out] at hz; cases hz⟩, by go_grown⟩
            · have hq1 : ((x.toNat : Int) < 48) = False := eq_false hq
              have hq2 : (57 : Int) < x.toNat := by omega
              clear hq hd2
              go_wp2
              go_ret2
              exact ⟨⟨0, by rw [HZ.out]; rfl, by omega, fun z hz => by rw [HZ.out] at hz; cases hz⟩, by go_grown⟩
        · obtain rfl : k = l.length := by omega
          have hall : l.all dgB = true := by have q := HA.out; rwa [List.take_length] at q
          rw [List.take_length] at hvb
          obtain ⟨V, hV⟩ : ∃ V, V = valF 0 l := ⟨_, rfl⟩
          rw [← hV] at hvb
          have ht : valF 0 (l.take l.length) = V := by rw [List.take_length, hV]
          obtain ⟨T, hT⟩ : ∃ T, T = Lib.decDigits V := ⟨_, rfl⟩
          have D := Lib.hid (show ∀ W, Calls Tryd.prog 49 #[.int .i64 (V : Int)] W fun e w' => e = .returned (strL T) ∧ Below W.heap.size W w' from fun W => by rw [hT]; exact l01Dec_any V W (by omega))
          have hz : rdV l = if T = l then some V else none := by
            unfold rdV
            rw [← hV, ← hT]
            by_cases he : T = l
            · rw [if_pos ⟨h4, h3, hall, he⟩, if_pos he]
            · rw [if_neg (fun q => he q.2.2.2), if_neg he]
          rw [ht]
          clear hall ht hV hT HA
          by_cases he : T = l
          · have hb : (T == l) = true := beq_iff_eq.2 he
            rw [if_pos he] at hz
            have HZ := Lib.hid hz; clear hz he
            go_wp2_with (go_at_call 49; refine (D.out _).mono ?_; rintro e_ w2 ⟨rfl, hb2⟩)
            go_ret2
            exact ⟨⟨V, by rw [HZ.out]; rfl, hvb, fun z hz => by rw [HZ.out] at hz; injection hz⟩, hb2⟩
          · have hb : (T == l) = false := beq_eq_false_iff_ne.2 he
            rw [if_neg he] at hz
            have HZ := Lib.hid hz; clear hz he
            go_wp2_with (go_at_call 49; refine (D.out _).mono ?_; rintro e_ w2 ⟨rfl, hb2⟩)
            go_ret2
            exact ⟨⟨V, by rw [HZ.out]; rfl, hvb, fun z hz => by rw [HZ.out] at hz; cases hz⟩, hb2⟩
end Go.Proofs.YtebdokpokbcgjaaDoor
