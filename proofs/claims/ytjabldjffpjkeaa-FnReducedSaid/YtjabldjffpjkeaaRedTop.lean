/- The law of FnReduced: a sounding below the datum. -/
import Derived.Test.YtjabldjffpjkeaaDrawSnd
import Derived.Test.YtjabldjffpjkeaaRed
namespace Go.Proofs.Ytjabldjffpjkeaa
set_option linter.unusedSimpArgs false
set_option linter.unusedVariables false
open Go.RowKit

theorem big_any (A : Option Addr) (n c : Nat) (w : World) (hn : n ≤ 9223372036854775807) :
    Calls Try.prog 6 #[.slice A n c] w fun e w' => e = .returned (.bool (decide ((4096 : Int) < n))) ∧ w' = w := by
  go_enter Try.func6, Try.ntmps6
  go_wp2
  go_ret
  exact ⟨rfl, rfl⟩

theorem sndB_iff {a b c d : Int} (h : sndB a b c d = true) : -2000 ≤ c ∧ c ≤ 1000000 ∧ 0 ≤ d ∧ d ≤ 5000 := sndB_bd h

/-- what the law asks of a reduced sounding -/
theorem reduced_ok {sa sb sd se : Int} {ts ls : List Int} {t : Int} (h : reC sa sb sd se ts ls t = 0) :
    lvE ts ls t = 0 ∧ sndB sa sb sd se = true ∧ sndB sa sb (reD sd se ts ls t) (reE sd se ts ls t) = true ∧
    reD sd se ts ls t - reE sd se ts ls t ≤ sd - se - lvHi ts ls t ∧ sd + se - lvLo ts ls t ≤ reD sd se ts ls t + reE sd se ts ls t := by
  have hs : sndB sa sb sd se = true := by
    cases hh : sndB sa sb sd se with
    | true => rfl
    | false => have := (re_bad (ts := ts) (ls := ls) (t := t) hh).1; omega
  have hl : lvE ts ls t = 0 := by
    by_cases hh : lvE ts ls t = 0
    · exact hh
    · have := (re_lev (t := t) hs hh).1; omega
  have h2 : sndB sa sb (reD sd se ts ls t) (reE sd se ts ls t) = true := by
    cases hh : sndB sa sb (reD sd se ts ls t) (reE sd se ts ls t) with
    | true => rfl
    | false => have := (re_lim (t := t) hs hl hh).1; omega
  refine ⟨hl, hs, h2, ?_⟩
  unfold reD reE
  omega

set_option maxRecDepth 100000 in
set_option maxHeartbeats 4000000 in
theorem lawReduced_any (A : Option Addr) (c : Nat) (xs : List Int) (w : World) (h : BytesAt w A c xs) :
    Calls Try.prog 3 #[.slice A xs.length c] w fun e w' => e = .returned (.bool true) ∧ Below w.heap.size w w' := by
  have hn := Nat.le_trans h.1 h.2.1
  have H := Lib.hid h; clear h
  by_cases hbig : (4096 : Int) < xs.length
  · go_enter Try.func3, Try.ntmps3
    go_wp2_with (go_at_call 6; refine (big_any _ _ _ _ hn).mono ?_; rintro e w' ⟨rfl, rfl⟩)
    go_ret
    exact ⟨rfl, Below.refl _ _⟩
  · go_enter Try.func3, Try.ntmps3
    go_wp2_with (go_at_call 6; refine (big_any _ _ _ _ hn).mono ?_; rintro e w' ⟨rfl, rfl⟩)
    refine (drawReduceSounding_any A c xs _ H.out).mono ?_
    rintro e w3 ⟨⟨sa, sb, sd, se, A1, c1, A2, c2, ts, ls, t, rfl, rp⟩, hb3⟩
    have P3 := Lib.hid rp.at
    have H3 := Lib.hid (H.out.below hb3 (Nat.le_refl _))
    have B3 := Lib.hid hb3; clear rp hb3
    go_wp2_with fail
    (refine (implReduce_any _ _ _ _ _ _ _ _ _ _ _ _ (P3.out.below (B := w3.heap.size) (by first | exact Below.refl _ _ | (go_grown; done) | exact bdrewN (by go_grown) _) (Nat.le_refl _))).mono ?_; rintro e w4 ⟨rfl, hb4⟩; obtain ⟨B4, hz4, q4, s4, t4, x4, y4, z4⟩ := bkeep (w := w3) [w3.heap.size, w3.heap.size + 1] (by first | (simp; done) | (simp; omega)) (by first | (go_grown; done) | exact bdrewN (by go_grown) _) hb4; (try simp at hz4); clear hb4)
    go_wp2_with fail
    (refine (specReduce_any _ _ _ _ _ _ _ _ _ _ _ _ (P3.out.below (B := w3.heap.size) (by first | exact Below.refl _ _ | (go_grown; done) | exact bdrewN (by go_grown) _) (Nat.le_refl _))).mono ?_; rintro e w5 ⟨rfl, hb5⟩; obtain ⟨B5, hz5, q5, s5, t5, x5, y5, z5⟩ := bkeep (w := w3) [w3.heap.size, w3.heap.size + 1, w4.heap.size] (by first | (simp; done) | (simp; omega)) (by first | (go_grown; done) | exact bdrewN (by go_grown) _) hb5; (try simp at hz5); clear hb5)
    go_wp2_with fail
    refine (drawDepthBounds_any A c xs _ (H3.out.below (B := w3.heap.size) (by first | exact Below.refl _ _ | (go_grown; done) | exact bdrewN (by go_grown) _) (Nat.le_refl _))).mono ?_
    rintro e w6 ⟨⟨ea, eb, ed, ee, rfl⟩, hb6⟩
    obtain ⟨B6, hz6, q6, s6, t6, x6, y6, z6⟩ := bkeep (w := w3) [w3.heap.size, w3.heap.size + 1, w4.heap.size, w5.heap.size] (by first | (simp; done) | (simp; omega)) (by first | (go_grown; done) | exact bdrewN (by go_grown) _) hb6; (try simp at hz6); clear hb6
    go_wp2_with fail
    (refine (implDepthBounds_any _ _ _ _ _).mono ?_; rintro e w7 ⟨rfl, hb7⟩; obtain ⟨B7, hz7, q7, s7, t7, x7, y7, z7⟩ := bkeep (w := w3) [w3.heap.size, w3.heap.size + 1, w4.heap.size, w5.heap.size, w6.heap.size] (by first | (simp; done) | (simp; omega)) (by first | (go_grown; done) | exact bdrewN (by go_grown) _) hb7; (try simp at hz7); clear hb7)
    go_wp2_with fail
    (refine (specDepthBounds_any _ _ _ _ _).mono ?_; rintro e w8 ⟨rfl, hb8⟩; obtain ⟨B8, hz8, q8, s8, t8, x8, y8, z8⟩ := bkeep (w := w3) [w3.heap.size, w3.heap.size + 1, w4.heap.size, w5.heap.size, w6.heap.size, w7.heap.size] (by first | (simp; done) | (simp; omega)) (by first | (go_grown; done) | exact bdrewN (by go_grown) _) hb8; (try simp at hz8); clear hb8)
    by_cases hc : reC sa sb sd se ts ls t = 0
    · obtain ⟨l0, s1, s2, i1, i2⟩ := reduced_ok hc
      have hv := (re_ok s1 l0 s2).2
      obtain ⟨d1, d2, d3, d4⟩ := sndB_bd s1
      obtain ⟨d5, d6, d7, d8⟩ := sndB_bd s2
      obtain ⟨lo, hlo⟩ : ∃ v, lvLo ts ls t = v := ⟨_, rfl⟩
      obtain ⟨hi, hhi⟩ : ∃ v, lvHi ts ls t = v := ⟨_, rfl⟩
      obtain ⟨rd, hrd⟩ : ∃ v, reD sd se ts ls t = v := ⟨_, rfl⟩
      obtain ⟨re, hre⟩ : ∃ v, reE sd se ts ls t = v := ⟨_, rfl⟩
      rw [hlo] at i2
      rw [hhi] at i1
      rw [hrd, hre] at i1 i2 s2
      rw [hrd] at d5 d6
      rw [hre] at d7 d8
      have hlb : -5000000000 ≤ lo ∧ lo ≤ 5000000000 ∧ -5000000000 ≤ hi ∧ hi ≤ 5000000000 := by
        have hg : gauB ts ls = true := by
          cases hh : gauB ts ls with
          | true => rfl
          | false => have := (lv_bad (x := t) hh).1; omega
        obtain ⟨-, e1, e2⟩ := lv_good (x := t) hg
        have := lv_bd (x := t) hg
        omega
      have e1 : depthBoundsL sa sb sd se = sd - se := by unfold depthBoundsL; rw [if_pos s1]
      have e2 : depthBoundsH sa sb sd se = sd + se := by unfold depthBoundsH; rw [if_pos s1]
      have e3 : depthBoundsE sa sb sd se = 0 := by unfold depthBoundsE; rw [if_pos s1]
      have e4 : depthBoundsL sa sb rd re = rd - re := by unfold depthBoundsL; rw [if_pos s2]
      have e5 : depthBoundsH sa sb rd re = rd + re := by unfold depthBoundsH; rw [if_pos s2]
      have e6 : depthBoundsE sa sb rd re = 0 := by unfold depthBoundsE; rw [if_pos s2]
      have W1 : IntKind.i64.wrap (sd - se - hi) = sd - se - hi := IntWalk.i64_in _ (by omega)
      have W2 : IntKind.i64.wrap (sd + se - lo) = sd + se - lo := IntWalk.i64_in _ (by omega)
      clear s1 s2 d1 d2 d3 d4 d5 d6 d7 d8 hlb
      go_wp2_with fail
      (refine (implLevelAt_any _ _ _ _ _ _ _ _ (P3.out.below (B := w3.heap.size) (by first | exact Below.refl _ _ | (go_grown; done) | exact bdrewN (by go_grown) _) (Nat.le_refl _))).mono ?_; rintro e w9 ⟨rfl, hb9⟩; obtain ⟨B9, hz9, q9, s9, t9, x9, y9, z9⟩ := bkeep (w := w3) [w3.heap.size, w3.heap.size + 1, w4.heap.size, w5.heap.size, w6.heap.size, w7.heap.size, w8.heap.size] (by first | (simp; done) | (simp; omega)) (by first | (go_grown; done) | exact bdrewN (by go_grown) _) hb9; (try simp at hz9); clear hb9)
      go_wp2_with fail
      (refine (implDepthBounds_any _ _ _ _ _).mono ?_; rintro e w10 ⟨rfl, hb10⟩; obtain ⟨B10, hz10, q10, s10, t10, x10, y10, z10⟩ := bkeep (w := w3) [w3.heap.size, w3.heap.size + 1, w4.heap.size, w5.heap.size, w6.heap.size, w7.heap.size, w8.heap.size, w9.heap.size] (by first | (simp; done) | (simp; omega)) (by first | (go_grown; done) | exact bdrewN (by go_grown) _) hb10; (try simp at hz10); clear hb10)
      go_wp2_with fail
      (refine (implDepthBounds_any _ _ _ _ _).mono ?_; rintro e w11 ⟨rfl, hb11⟩; obtain ⟨B11, hz11, q11, s11, t11, x11, y11, z11⟩ := bkeep (w := w3) [w3.heap.size, w3.heap.size + 1, w4.heap.size, w5.heap.size, w6.heap.size, w7.heap.size, w8.heap.size, w9.heap.size, w10.heap.size] (by first | (simp; done) | (simp; omega)) (by first | (go_grown; done) | exact bdrewN (by go_grown) _) hb11; (try simp at hz11); clear hb11)
      go_wp2_with fail

      go_ret
      exact ⟨rfl, B3.out.trans (Below.mono (show Below w3.heap.size w3 _ by first | exact B11 | (go_grown; done)) B3.out.size)⟩
    · go_wp2_with fail
      go_ret
      exact ⟨rfl, B3.out.trans (Below.mono (show Below w3.heap.size w3 _ by first | exact B8 | (go_grown; done)) B3.out.size)⟩
end Go.Proofs.Ytjabldjffpjkeaa
