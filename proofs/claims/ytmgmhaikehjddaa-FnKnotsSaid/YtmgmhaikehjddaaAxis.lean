/- The axis of a profile: the least knot with the least speed, by the program and by the reference. -/
import Derived.Test.YtmgmhaikehjddaaFast
import Derived.Test.YtmgmhaikehjddaaSpd
import Derived.Deep.QuietTactic
import Derived.BigQuiet
namespace Go.Proofs.Ytmgmhaikehjddaa
set_option linter.unusedSimpArgs false
set_option linter.unusedVariables false
open Go.RowKit

/-- the first place of the least of the first k + 1 numbers -/
def mi (xs : List Int) : Nat → Nat
  | 0 => 0
  | k + 1 => if spd xs ((k + 1 : Nat) : Int) < spd xs (mi xs k : Int) then k + 1 else mi xs k
theorem mi_le (xs : List Int) : ∀ k, mi xs k ≤ k := by
  intro k
  induction k with
  | zero => exact Nat.le_refl _
  | succ k ih => rw [mi]; split <;> omega
theorem mi_min (xs : List Int) : ∀ k j, j ≤ k → spd xs (mi xs k : Int) ≤ spd xs (j : Int) := by
  intro k
  induction k with
  | zero => intro j h; obtain rfl : j = 0 := by omega
            exact Int.le_refl _
  | succ k ih =>
    intro j h
    rw [mi]
    split
    · rename_i g
      rcases Nat.lt_or_ge k j with q | q
      · obtain rfl : j = k + 1 := by omega
        exact Int.le_refl _
      · have := ih j q; omega
    · rename_i g
      rcases Nat.lt_or_ge k j with q | q
      · obtain rfl : j = k + 1 := by omega
        omega
      · exact ih j q
theorem mi_first (xs : List Int) : ∀ k j, j < mi xs k → spd xs (mi xs k : Int) < spd xs (j : Int) := by
  intro k
  induction k with
  | zero => intro j h; exact absurd h (by simp [mi])
  | succ k ih =>
    intro j h
    rw [mi] at h ⊢
    split at h
    · rename_i g
      rw [if_pos g]
      have := mi_min xs k j (by omega)
      omega
    · rename_i g
      rw [if_neg g]
      exact ih j h
theorem mi_val (xs : List Int) (k : Nat) : spd xs (mi xs (k + 1) : Int) = if spd xs ((k + 1 : Nat) : Int) < spd xs (mi xs k : Int) then spd xs ((k + 1 : Nat) : Int) else spd xs (mi xs k : Int) := by
  by_cases g : spd xs ((k + 1 : Nat) : Int) < spd xs (mi xs k : Int)
  · rw [if_pos g, mi, if_pos g]
  · rw [if_neg g, mi, if_neg g]
@[irreducible] def axC (ds ss : List Int) : Int := if profB ds ss then 0 else 1
@[irreducible] def axK (ds ss : List Int) : Int := if profB ds ss then (mi ss (ss.length - 1) : Int) else 0
theorem ax_ok {ds ss : List Int} (h : profB ds ss = true) : axC ds ss = 0 ∧ axK ds ss = (mi ss (ss.length - 1) : Int) := by unfold axC axK; rw [if_pos h, if_pos h]; exact ⟨rfl, rfl⟩
theorem ax_no {ds ss : List Int} (h : profB ds ss = false) : axC ds ss = 1 ∧ axK ds ss = 0 := by unfold axC axK; rw [h]; exact ⟨rfl, rfl⟩

set_option maxHeartbeats 1000000 in
theorem slicesMin_any (A : Option Addr) (c n m : Nat) (xs : List Int) (w : World) (hx : IntsAt w A c xs) (hl : n = xs.length) (h0 : n = m + 1) :
    Calls Try.prog 98 #[.slice A n c] w fun e w' => e = .returned (.int .i64 (spd xs (mi xs m : Int))) ∧ w = w' := by
  subst hl
  have hn := Nat.le_trans hx.1 hx.2.1
  obtain ⟨b, off, rfl, hb, hc⟩ := hx.spd (by omega)
  have hx0 := hc 0 (by omega)
  have e0 : off + 0 = off := by omega
  rw [e0] at hx0
  have HC := Lib.hid hc; have H0 := Lib.hid h0; clear hx hc e0
  have hl1 : ¬ (xs.length : Int) < 1 := by omega
  have hl2 : 0 < xs.length := by omega
  go_enter Try.func98, Try.ntmps98
  go_wp2
  go_loop [3, 4] (fun v i => ∃ k : Nat, k < xs.length ∧ i = .int .i64 ((k + 1 : Nat) : Int) ∧ v = .int .i64 (spd xs (mi xs k : Int))) (fun _ i => xs.length - (intOf i).toNat)
  case atStart => exact ⟨0, by omega, rfl, rfl⟩
  case round =>
    obtain ⟨k, hk, rfl, rfl⟩ := hrel
    by_cases hlt : k + 1 < xs.length
    · have hc := HC.out (k + 1) hlt
      have HK := Lib.hid (mi_val xs k)
      generalize hX : spd xs ((k + 1 : Nat) : Int) = X at hc HK
      have ei : ((k + 1 : Nat) : Int) = (k : Int) + 1 := by omega
      rw [ei]
      have en : ((k : Int) + 1).toNat = k + 1 := by omega
      go_wp2
      go_round
      case rel => exact ⟨k + 1, by omega, by go_num, vint (by rw [HK.out])⟩
      case measure => simp [intOf]; omega
    · obtain rfl : m = k := by omega
      have ei : ((m + 1 : Nat) : Int) = (m : Int) + 1 := by omega
      rw [ei]
      go_wp2
      go_ret
      exact ⟨rfl, rfl⟩
set_option maxHeartbeats 1000000 in
theorem slicesIndex_any (A : Option Addr) (c n m : Nat) (xs : List Int) (v : Int) (w : World) (hx : IntsAt w A c xs) (hl : n = xs.length) (hm : m < xs.length) (hv : spd xs (m : Int) = v) (hf : ∀ j : Nat, j < m → spd xs (j : Int) ≠ v) :
    Calls Try.prog 97 #[.slice A n c, .int .i64 v] w fun e w' => e = .returned (.int .i64 m) ∧ w = w' := by
  subst hl
  have hn := Nat.le_trans hx.1 hx.2.1
  obtain ⟨b, off, rfl, hb, hc⟩ := hx.spd (by omega)
  have HC := Lib.hid hc; have HF := Lib.hid hf; have HV := Lib.hid hv; clear hx hc hf hv
  go_enter Try.func97, Try.ntmps97
  go_wp2
  go_loop [5, 8] (fun _ i => ∃ k : Nat, k ≤ m ∧ i = .int .i64 k) (fun _ i => xs.length - (intOf i).toNat)
  case atStart => exact ⟨0, by omega, rfl⟩
  case round =>
    obtain ⟨k, hk, rfl⟩ := hrel
    have hc := HC.out k (by omega)
    have hlt : (k : Int) < xs.length := by omega
    have hk0 : (0 : Int) ≤ k := by omega
    by_cases hkm : k < m
    · have hf := HF.out k hkm
      have hf2 : ¬ v = spd xs (k : Int) := fun e => hf e.symm
      have hf3 : (v == spd xs (k : Int)) = false := beq_eq_false_iff_ne.2 hf2
      go_wp2
      go_round
      case rel => exact ⟨k + 1, by omega, by go_num⟩
      case measure => simp [intOf]; omega
    · obtain rfl : k = m := by omega
      have hv := HV.out
      rw [hv] at hc
      go_wp2
      go_ret
      exact ⟨rfl, rfl⟩
set_option maxHeartbeats 2000000 in
theorem implAxisOf_any (A1 A2 : Option Addr) (c1 c2 : Nat) (ds ss : List Int) (w : World) (h : ProfAt w A1 c1 A2 c2 ds ss) :
    Calls Try.prog 21 #[profV A1 ds.length c1 A2 ss.length c2] w fun e w' => e = .returned (.tuple #[.int .i64 (axK ds ss), .int .i64 (axC ds ss)]) ∧ Below w.heap.size w w' := by
  rcases Bool.eq_false_or_eq_true (profB ds ss) with hp | hp
  · obtain ⟨l0, l1, l2, l3⟩ := prof_len hp
    obtain ⟨eC, eK⟩ := ax_ok hp
    rw [eC, eK]
    obtain ⟨m, hm⟩ : ∃ m, ss.length = m + 1 := ⟨ss.length - 1, by omega⟩
    have e1 : ss.length - 1 = m := by omega
    rw [e1]
    have hq : mi ss m < ss.length := by have := mi_le ss m; omega
    have hfi : ∀ j : Nat, j < mi ss m → spd ss (j : Int) ≠ spd ss (mi ss m : Int) := fun j hj => by have := mi_first ss m j hj; omega
    have H := Lib.hid h; have HM := Lib.hid hm; have HI := Lib.hid hfi; have HQ := Lib.hid hq; clear h hm hfi hq e1 eC eK
    go_enter Try.func21, Try.ntmps21
    go_wp2_with fail
    (refine (implIsProfile_any _ _ _ _ _ _ _ (H.out.1.below (B := w.heap.size) (by first | exact Below.refl _ _ | (go_grown; done) | exact bdrewN (by go_grown) _) (Nat.le_refl _)) (H.out.2.below (B := w.heap.size) (by first | exact Below.refl _ _ | (go_grown; done) | exact bdrewN (by go_grown) _) (Nat.le_refl _))).mono ?_; rintro e w1 ⟨rfl, hb1⟩; obtain ⟨B1, hz1, q1, s1, t1, x1, y1, z1⟩ := bkeep (w := w) [w.heap.size] (by first | (simp; done) | (simp; omega)) (by first | (go_grown; done) | exact bdrewN (by go_grown) _) hb1; (try simp at hz1); clear hb1)
    go_wp2_with fail
    have HR := Lib.hid (H.out.2.below B1 (Nat.le_refl _))
    go_quiet (first
      | (go_at_call 98; exact q_same (slicesMin_any _ _ _ _ ss _ (HR.out.below (bdrewN (Below.refl _ _) _) (Nat.le_refl _)) rfl HM.out))
      | (go_at_call 97; exact q_same (slicesIndex_any _ _ _ _ ss _ _ (HR.out.below (bdrewN (Below.refl _ _) _) (Nat.le_refl _)) rfl HQ.out rfl HI.out)))
    go_wp2
    go_ret2
    exact ⟨rfl, (by first | with_reducible exact B1 | (go_grown; done) | with_reducible exact bdrewN B1 _ | (go_grown <;> first | with_reducible exact bdrewN B1 _ | with_reducible exact B1))⟩
  · obtain ⟨eC, eK⟩ := ax_no hp
    rw [eC, eK]
    have H := Lib.hid h; clear h eC eK
    go_enter Try.func21, Try.ntmps21
    go_wp2_with fail
    (refine (implIsProfile_any _ _ _ _ _ _ _ (H.out.1.below (B := w.heap.size) (by first | exact Below.refl _ _ | (go_grown; done) | exact bdrewN (by go_grown) _) (Nat.le_refl _)) (H.out.2.below (B := w.heap.size) (by first | exact Below.refl _ _ | (go_grown; done) | exact bdrewN (by go_grown) _) (Nat.le_refl _))).mono ?_; rintro e w1 ⟨rfl, hb1⟩; obtain ⟨B1, hz1, q1, s1, t1, x1, y1, z1⟩ := bkeep (w := w) [w.heap.size] (by first | (simp; done) | (simp; omega)) (by first | (go_grown; done) | exact bdrewN (by go_grown) _) hb1; (try simp at hz1); clear hb1)
    go_wp2
    go_ret2
    exact ⟨rfl, (by first | with_reducible exact B1 | (go_grown; done) | with_reducible exact bdrewN B1 _ | (go_grown <;> first | with_reducible exact bdrewN B1 _ | with_reducible exact B1))⟩
set_option maxHeartbeats 2000000 in
theorem specAxisOf_any (A1 A2 : Option Addr) (c1 c2 : Nat) (ds ss : List Int) (w : World) (h : ProfAt w A1 c1 A2 c2 ds ss) :
    Calls Try.prog 22 #[profV A1 ds.length c1 A2 ss.length c2] w fun e w' => e = .returned (.tuple #[.int .i64 (axK ds ss), .int .i64 (axC ds ss)]) ∧ Below w.heap.size w w' := by
  rcases Bool.eq_false_or_eq_true (profB ds ss) with hp | hp
  · obtain ⟨l0, l1, l2, l3⟩ := prof_len hp
    obtain ⟨eC, eK⟩ := ax_ok hp
    rw [eC, eK]
    obtain ⟨m, hm⟩ : ∃ m, ss.length = m + 1 := ⟨ss.length - 1, by omega⟩
    have e1 : ss.length - 1 = m := by omega
    rw [e1]
    obtain ⟨b2, o2, rfl, hb2, q2⟩ := h.2.spd (by omega)
    have Q2 := Lib.hid q2
    have H := Lib.hid h; have HM := Lib.hid hm; clear h hm e1 eC eK q2
    go_enter Try.func22, Try.ntmps22
    go_wp2_with fail
    (refine (specIsProfile_any _ _ _ _ _ _ _ (H.out.1.below (B := w.heap.size) (by first | exact Below.refl _ _ | (go_grown; done) | exact bdrewN (by go_grown) _) (Nat.le_refl _)) (H.out.2.below (B := w.heap.size) (by first | exact Below.refl _ _ | (go_grown; done) | exact bdrewN (by go_grown) _) (Nat.le_refl _))).mono ?_; rintro e w1 ⟨rfl, hb1⟩; obtain ⟨B1, hz1, q1, s1, t1, x1, y1, z1⟩ := bkeep (w := w) [w.heap.size] (by first | (simp; done) | (simp; omega)) (by first | (go_grown; done) | exact bdrewN (by go_grown) _) hb1; (try simp at hz1); clear hb1)
    go_wp2
    go_loopw [4, 5] (fun b i wr => ∃ k : Nat, k < ss.length ∧ i = .int .i64 ((k + 1 : Nat) : Int) ∧ b = .int .i64 (mi ss k : Int) ∧ Below w.heap.size w wr ∧ w.heap.size < wr.heap.size ∧ wr.cell? ⟨w.heap.size, 1, none⟩ = some (.slice (some ⟨b2, o2, none⟩) ss.length c2)) (fun _ i _ => ss.length - (intOf i).toNat)
    case atStart => exact ⟨0, by omega, rfl, rfl, (by first | with_reducible exact B1 | (go_grown; done) | with_reducible exact bdrewN B1 _ | (go_grown <;> first | with_reducible exact bdrewN B1 _ | with_reducible exact B1)), by first | omega | (simp; done) | (simp; omega), by simp [*, go_sem]⟩
    case round =>
      obtain ⟨k, hk, rfl, rfl, Br, lr, cr⟩ := hrel
      have HB := Lib.hid Br
      by_cases hlt : k + 1 < ss.length
      · have d0 := (bold Br b2 (o2 + (k + 1)) hb2).trans (Q2.out (k + 1) hlt)
        have d1 := (bold Br b2 (o2 + mi ss k) hb2).trans (Q2.out (mi ss k) (by have := mi_le ss k; omega))
        have g1 : (mi ss k : Int) < ss.length := by have := mi_le ss k; omega
        have HK := Lib.hid (show mi ss (k + 1) = if spd ss ((k + 1 : Nat) : Int) < spd ss (mi ss k : Int) then k + 1 else mi ss k from rfl)
        have ei : ((k + 1 : Nat) : Int) = (k : Int) + 1 := by omega
        by_cases hc : spd ss ((k + 1 : Nat) : Int) < spd ss (mi ss k : Int)
        · have e2 := HK.out.trans (if_pos hc)
          generalize spd ss ((k + 1 : Nat) : Int) = X at d0 hc
          generalize spd ss (mi ss k : Int) = Y at d1 hc
          generalize mi ss k = q at *
          have E2 := Lib.hid e2
          clear HK e2 Br
          rw [ei]
          have en : ((k : Int) + 1).toNat = k + 1 := by omega
          go_wp2_with fail
          go_quiet (fail)
          go_wp2
          go_roundw
          case rel => exact ⟨k + 1, by omega, by go_num, vint (by rw [E2.out]; omega), (by first | exact HB.out | (have hb_ := HB.out; go_grown; done) | (have hb_ := HB.out; exact bdrewN (by go_grown) _)), by first | omega | (simp; done) | (simp; omega), by simp [*, go_sem]⟩
          case measure => simp [intOf]; omega
        · have e2 := HK.out.trans (if_neg hc)
          generalize spd ss ((k + 1 : Nat) : Int) = X at d0 hc
          generalize spd ss (mi ss k : Int) = Y at d1 hc
          generalize mi ss k = q at *
          have E2 := Lib.hid e2
          clear HK e2 Br
          rw [ei]
          have en : ((k : Int) + 1).toNat = k + 1 := by omega
          go_wp2_with fail
          go_quiet (fail)
          go_wp2
          go_roundw
          case rel => exact ⟨k + 1, by omega, by go_num, vint (by rw [E2.out]), (by first | exact HB.out | (have hb_ := HB.out; go_grown; done) | (have hb_ := HB.out; exact bdrewN (by go_grown) _)), by first | omega | (simp; done) | (simp; omega), by simp [*, go_sem]⟩
          case measure => simp [intOf]; omega
      · obtain rfl : m = k := by have := HM.out; omega
        have ei : ((m + 1 : Nat) : Int) = (m : Int) + 1 := by omega
        rw [ei]
        go_wp2
        go_ret2
        exact ⟨rfl, Br⟩
  · obtain ⟨eC, eK⟩ := ax_no hp
    rw [eC, eK]
    have H := Lib.hid h; clear h eC eK
    go_enter Try.func22, Try.ntmps22
    go_wp2_with fail
    (refine (specIsProfile_any _ _ _ _ _ _ _ (H.out.1.below (B := w.heap.size) (by first | exact Below.refl _ _ | (go_grown; done) | exact bdrewN (by go_grown) _) (Nat.le_refl _)) (H.out.2.below (B := w.heap.size) (by first | exact Below.refl _ _ | (go_grown; done) | exact bdrewN (by go_grown) _) (Nat.le_refl _))).mono ?_; rintro e w1 ⟨rfl, hb1⟩; obtain ⟨B1, hz1, q1, s1, t1, x1, y1, z1⟩ := bkeep (w := w) [w.heap.size] (by first | (simp; done) | (simp; omega)) (by first | (go_grown; done) | exact bdrewN (by go_grown) _) hb1; (try simp at hz1); clear hb1)
    go_wp2
    go_ret2
    exact ⟨rfl, (by first | with_reducible exact B1 | (go_grown; done) | with_reducible exact bdrewN B1 _ | (go_grown <;> first | with_reducible exact bdrewN B1 _ | with_reducible exact B1))⟩
end Go.Proofs.Ytmgmhaikehjddaa
