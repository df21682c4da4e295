/- The least and the greatest level, by the program and by the reference. -/
import Derived.Test.YtjabldjffpjkeaaMean
import Derived.BigRegion
import Derived.Deep.RegionHeld3
import Derived.StillTailTactics
import Derived.Deep.Cut
namespace Go.Proofs.Ytjabldjffpjkeaa
set_option linter.unusedSimpArgs false
set_option linter.unusedVariables false
open Go.RowKit

/-- the least of the first k numbers (and of the first) -/
def mnP (ls : List Int) : Nat → Int
  | 0 => spd ls 0
  | k + 1 => min (mnP ls k) (spd ls k)
def mxP (ls : List Int) : Nat → Int
  | 0 => spd ls 0
  | k + 1 => max (mxP ls k) (spd ls k)
theorem mnP_le (ls : List Int) : ∀ k j : Nat, j < k → mnP ls k ≤ spd ls j ∧ spd ls j ≤ mxP ls k := by
  intro k
  induction k with
  | zero => intro j h; omega
  | succ k ih =>
    intro j h
    simp only [mnP, mxP]
    by_cases hj : j = k
    · subst hj; omega
    · have := ih j (by omega); omega
theorem mnP_bd {ls : List Int} {a b : Int} (k : Nat) (h0 : a ≤ spd ls 0 ∧ spd ls 0 ≤ b) (h : ∀ j : Nat, j < k → a ≤ spd ls j ∧ spd ls j ≤ b) : a ≤ mnP ls k ∧ mxP ls k ≤ b := by
  induction k with
  | zero => simp only [mnP, mxP]; exact h0
  | succ k ih =>
    have h1 := ih (fun j hj => h j (by omega))
    have h2 := h k (by omega)
    simp only [mnP, mxP]
    omega
@[irreducible] def spE (ts ls : List Int) : Int := if gauB ts ls then 0 else 1
@[irreducible] def spLo (ts ls : List Int) : Int := if gauB ts ls then mnP ls ls.length else 0
@[irreducible] def spHi (ts ls : List Int) : Int := if gauB ts ls then mxP ls ls.length else 0
theorem sp_bad {ts ls : List Int} (h : gauB ts ls = false) : spE ts ls = 1 ∧ spLo ts ls = 0 ∧ spHi ts ls = 0 := by
  unfold spE spLo spHi; simp [h]
theorem sp_ok {ts ls : List Int} (h : gauB ts ls = true) : spE ts ls = 0 ∧ spLo ts ls = mnP ls ls.length ∧ spHi ts ls = mxP ls ls.length := by
  unfold spE spLo spHi; simp [h]

set_option maxHeartbeats 2000000 in
theorem around_any (A : Option Addr) (c : Nat) (xs : List Int) (w : World) (h : IntsAt w A c xs) (h0 : 0 < xs.length) :
    Calls Try.prog 58 #[.slice A xs.length c] w fun e w' => e = .returned (ivV (mnP xs xs.length) (mxP xs xs.length)) ∧ Below w.heap.size w w' := by
  obtain ⟨b1, o1, rfl, hb1, q1⟩ := h.spd h0
  have hn := Nat.le_trans h.1 h.2.1
  have d0 := q1 0 h0
  simp only [Nat.add_zero] at d0
  have Q1 := Lib.hid q1; clear q1 h
  have hi0 : (0 : Int) < xs.length := by omega
  go_enter Try.func58, Try.ntmps58
  go_upto_region 1 with fail
  refine genS (S := fun w' => Below w.heap.size w w' ∧ w'.heap.size = w.heap.size + 1 ∧ w'.cell? ⟨w.heap.size, 0, none⟩ = some (.int .i64 0) ∧ w'.cell? ⟨w.heap.size, 1, none⟩ = some (.int .i64 0) ∧ (∀ o, w'.frozen? ⟨w.heap.size, o, none⟩ = false) ∧ w'.cell? ⟨b1, o1, none⟩ = some (.int .i64 (spd xs 0))) ⟨by go_grown, by simp, by simp [*, go_sem], by simp [*, go_sem], fun o => by simp [*, go_sem], by simp [*, go_sem]⟩ ?_
  clear d0
  rintro w2 ⟨B2, z2, r0, r1, fR, d0⟩
  have ltb : b1 < w2.heap.size := by omega
  have ltR : w.heap.size < w2.heap.size := by omega
  have Z2 := Lib.hid z2; clear z2
  go_region
  have ne1 : b1 ≠ w2.heap.size := by omega
  have ne2 : w.heap.size ≠ w2.heap.size := by omega
  go_wp2_with fail
  go_loopg [15] xs.length (fun g s15 wr => ∃ k : Nat, s15 = .int .i64 (k : Int) ∧ k ≤ xs.length ∧ xs.length - k ≤ g ∧ Below w.heap.size w wr ∧ w2.heap.size < wr.heap.size ∧ (∃ v0 v1, wr.cell? ⟨w.heap.size, 0, none⟩ = some v0 ∧ wr.cell? ⟨w.heap.size, 1, none⟩ = some v1) ∧ (∀ o, wr.frozen? ⟨w.heap.size, o, none⟩ = false) ∧ (∀ o, wr.frozen? ⟨w2.heap.size, o, none⟩ = false) ∧ wr.cell? ⟨w2.heap.size, 0, none⟩ = some (.int .i64 (mnP xs k)) ∧ wr.cell? ⟨w2.heap.size, 1, none⟩ = some (.int .i64 (mxP xs k)))
  case atStart => exact ⟨0, rfl, by omega, by omega, (B2.alloc (by omega) _).drew, by simp, ⟨_, _, by simp [*, go_sem] <;> rfl, by simp [*, go_sem] <;> rfl⟩, fun o => by simp [*, go_sem], fun o => by simp [*, go_sem], by simp [*, go_sem, mnP], by simp [*, go_sem, mxP]⟩
  case round =>
    obtain ⟨k, rfl, hk, hg, Bk, ltX, ⟨v0, v1, r0, r1⟩, fR', fX, c0, c1'⟩ := hrel
    by_cases hlt : k < xs.length
    · have dk := (Bk.cell (p := ⟨b1, o1 + k, none⟩) hb1).trans (Q1.out k hlt)
      have k0 : (0 : Int) ≤ k := by omega
      have k1 : (k : Int) < xs.length := by omega
      have W0 : IntKind.i64.wrap ((k : Int) + 1) = (k : Int) + 1 := IntWalk.i64_in _ (by omega)
      have BK := Lib.hid Bk; clear Bk
      go_wp2
      all_goals go_roundg (xs.length - (k + 1))
      all_goals first
        | (show xs.length - (k + 1) < gk; omega)
        | (refine ⟨k + 1, by go_num, by omega, Nat.le_refl _, (BK.out.setCell (by show w.heap.size ≤ w2.heap.size; omega) _).setCell (by show w.heap.size ≤ w2.heap.size; omega) _, by simpa using ltX, ⟨v0, v1, by simp [*, go_sem], by simp [*, go_sem]⟩, fun o => by simp [*, go_sem], fun o => by simp [*, go_sem], ?_, ?_⟩
           · have e : mnP xs (k + 1) = min (mnP xs k) (spd xs k) := rfl
             rw [e]
             simp [*, go_sem] <;> omega
           · have e : mxP xs (k + 1) = max (mxP xs k) (spd xs k) := rfl
             rw [e]
             simp [*, go_sem] <;> omega)
    · obtain rfl : k = xs.length := by omega
      have BK := Lib.hid Bk; clear Bk
      go_wp2
      refine bodyPost_ret (by simp [results, Try.results58, go_sem, *] <;> rfl) rfl ?_
      exact ⟨rfl, (BK.out.setCell (Nat.le_refl _) _).setCell (Nat.le_refl _) _⟩
set_option maxHeartbeats 2000000 in
theorem implLevelSpan_any (A1 A2 : Option Addr) (c1 c2 : Nat) (ts ls : List Int) (w : World) (h : ProfAt w A1 c1 A2 c2 ts ls) :
    Calls Try.prog 27 #[profV A1 ts.length c1 A2 ls.length c2] w fun e w' => e = .returned (.tuple #[ivV (spLo ts ls) (spHi ts ls), .int .i64 (spE ts ls)]) ∧ Below w.heap.size w w' := by
  by_cases hp : gauB ts ls = true
  · obtain ⟨e0, e1, e2⟩ := sp_ok hp
    have p := gauOk_of hp
    have l1 := p.l1; have l3 := p.l3; have l4 := p.l4
    have hpos : 0 < ls.length := by omega
    have H := Lib.hid h; have E0 := Lib.hid e0; have E1 := Lib.hid e1; have E2 := Lib.hid e2; clear h e0 e1 e2 p l3 l4
    go_enter Try.func27, Try.ntmps27
    go_wp2_with (first
      | (go_at_call 24; refine (implIsGauge_any _ _ _ _ _ _ _ ⟨(H.out.1.below (B := w.heap.size) (by first | exact Below.refl _ _ | (go_grown; done) | exact bdrewN (by go_grown) _) (Nat.le_refl _)), (H.out.2.below (B := w.heap.size) (by first | exact Below.refl _ _ | (go_grown; done) | exact bdrewN (by go_grown) _) (Nat.le_refl _))⟩).mono ?_; rintro e w1 ⟨rfl, hb1⟩; obtain ⟨B1, hz1, q1, s1, t1, x1, y1, z1⟩ := bkeep (w := w) [w.heap.size, w.heap.size + 1] (by first | (simp; done) | (simp; omega)) (by first | (go_grown; done) | exact bdrewN (by go_grown) _) hb1; (try simp at hz1); clear hb1)
      | (go_at_call 58; refine (around_any _ _ _ _ (H.out.2.below (B := w.heap.size) (by first | exact Below.refl _ _ | (go_grown; done) | exact bdrewN (by go_grown) _) (Nat.le_refl _)) hpos).mono ?_; rintro e w2 ⟨rfl, hb2⟩; obtain ⟨B2, hz2, q2, s2, t2, x2, y2, z2⟩ := bkeep (w := w) [w.heap.size, w.heap.size + 1] (by first | (simp; done) | (simp; omega)) (by first | (go_grown; done) | exact bdrewN (by go_grown) _) hb2; (try simp at hz2); clear hb2))
    refine bodyPost_ret (by simp [results, Try.results27, go_sem, *] <;> rfl) rfl ?_
    exact ⟨by rw [E0.out, E1.out, E2.out], (by first | with_reducible exact B2 | (go_grown; done) | with_reducible exact bdrewN B2 _ | (go_grown <;> first | with_reducible exact bdrewN B2 _ | with_reducible exact B2))⟩
  · have hp' : gauB ts ls = false := by simpa using hp
    obtain ⟨e0, e1, e2⟩ := sp_bad hp'
    have H := Lib.hid h; have E0 := Lib.hid e0; have E1 := Lib.hid e1; have E2 := Lib.hid e2; clear h e0 e1 e2 hp
    go_enter Try.func27, Try.ntmps27
    go_wp2_with (go_at_call 24; refine (implIsGauge_any _ _ _ _ _ _ _ ⟨(H.out.1.below (B := w.heap.size) (by first | exact Below.refl _ _ | (go_grown; done) | exact bdrewN (by go_grown) _) (Nat.le_refl _)), (H.out.2.below (B := w.heap.size) (by first | exact Below.refl _ _ | (go_grown; done) | exact bdrewN (by go_grown) _) (Nat.le_refl _))⟩).mono ?_; rintro e w1 ⟨rfl, hb1⟩; obtain ⟨B1, hz1, q1, s1, t1, x1, y1, z1⟩ := bkeep (w := w) [w.heap.size, w.heap.size + 1] (by first | (simp; done) | (simp; omega)) (by first | (go_grown; done) | exact bdrewN (by go_grown) _) hb1; (try simp at hz1); clear hb1)
    refine bodyPost_ret (by simp [results, Try.results27, go_sem, *] <;> rfl) rfl ?_
    exact ⟨by rw [E0.out, E1.out, E2.out], (by first | with_reducible exact B1 | (go_grown; done) | with_reducible exact bdrewN B1 _ | (go_grown <;> first | with_reducible exact bdrewN B1 _ | with_reducible exact B1))⟩
set_option maxRecDepth 100000 in
set_option maxHeartbeats 2000000 in
theorem specLevelSpan_any (A1 A2 : Option Addr) (c1 c2 : Nat) (ts ls : List Int) (w : World) (h : ProfAt w A1 c1 A2 c2 ts ls) :
    Calls Try.prog 28 #[profV A1 ts.length c1 A2 ls.length c2] w fun e w' => e = .returned (.tuple #[ivV (spLo ts ls) (spHi ts ls), .int .i64 (spE ts ls)]) ∧ Below w.heap.size w w' := by
  by_cases hp : gauB ts ls = true
  · obtain ⟨e0, e1, e2⟩ := sp_ok hp
    have p := gauOk_of hp
    have l1 := p.l1; have l2 := p.l2; have l3 := p.l3; have l4 := p.l4
    have hpos : 0 < ls.length := by omega
    obtain ⟨b2, o2, rfl, hb2, q2⟩ := h.2.spd hpos
    have d0 := q2 0 hpos
    simp only [Nat.add_zero] at d0
    have hi0 : (0 : Int) < ls.length := by omega
    have H := Lib.hid h; have E0 := Lib.hid e0; have E1 := Lib.hid e1; have E2 := Lib.hid e2; have Q2 := Lib.hid q2; clear h e0 e1 e2 p q2
    go_enter Try.func28, Try.ntmps28
    go_upto_region 3 with (go_at_call 49; refine (specIsGauge_any _ _ _ _ _ _ _ ⟨(H.out.1.below (B := w.heap.size) (by first | exact Below.refl _ _ | (go_grown; done) | exact bdrewN (by go_grown) _) (Nat.le_refl _)), (H.out.2.below (B := w.heap.size) (by first | exact Below.refl _ _ | (go_grown; done) | exact bdrewN (by go_grown) _) (Nat.le_refl _))⟩).mono ?_; rintro e w1 ⟨rfl, hb1⟩; obtain ⟨B1, hz1, q1, s1, t1, x1, y1, z1⟩ := bkeep (w := w) [w.heap.size, w.heap.size + 1] (by first | (simp; done) | (simp; omega)) (by first | (go_grown; done) | exact bdrewN (by go_grown) _) hb1; (try simp at hz1); clear hb1)
    refine genS (S := fun w' => Below w.heap.size w w' ∧ w.heap.size + 1 < w'.heap.size ∧ w'.cell? ⟨w.heap.size, 0, none⟩ = some (.slice A1 ts.length c1) ∧ w'.cell? ⟨w.heap.size, 1, none⟩ = some (.slice (some ⟨b2, o2, none⟩) ls.length c2) ∧ w'.cell? ⟨w.heap.size + 1, 0, none⟩ = some (.int .i64 0) ∧ w'.cell? ⟨w.heap.size + 1, 1, none⟩ = some (.int .i64 0) ∧ (∀ o, w'.frozen? ⟨w.heap.size + 1, o, none⟩ = false) ∧ w'.cell? ⟨b2, o2, none⟩ = some (.int .i64 (spd ls 0))) ⟨(by first | with_reducible exact B1 | (go_grown; done) | with_reducible exact bdrewN B1 _ | (go_grown <;> first | with_reducible exact bdrewN B1 _ | with_reducible exact B1)), by first | omega | (simp; done) | (simp; omega), by simp [*, go_sem], by simp [*, go_sem], by simp [*, go_sem], by simp [*, go_sem], fun o => by simp [*, go_sem], by simp [*, go_sem]⟩ ?_
    clear d0 q1 s1 t1 x1 y1
    rintro w2 ⟨B2, z2, g0, g1, r0, r1, fR, d0⟩
    have ltb : b2 < w2.heap.size := by omega
    have ltR : w.heap.size < w2.heap.size := by omega
    have ne1 : b2 ≠ w2.heap.size := by omega
    have ne2 : w.heap.size + 1 ≠ w2.heap.size := by omega
    have ne3 : w.heap.size ≠ w2.heap.size := by omega
    go_region
    go_wp2_with fail
    go_loopg [5] ls.length (fun g s5 wr => ∃ k : Nat, s5 = .int .i64 (k : Int) ∧ 1 ≤ k ∧ k ≤ ls.length ∧ ls.length - k ≤ g ∧ Below w.heap.size w wr ∧ w2.heap.size < wr.heap.size ∧ wr.cell? ⟨w.heap.size, 0, none⟩ = some (.slice A1 ts.length c1) ∧ wr.cell? ⟨w.heap.size, 1, none⟩ = some (.slice (some ⟨b2, o2, none⟩) ls.length c2) ∧ (∃ v0 v1, wr.cell? ⟨w.heap.size + 1, 0, none⟩ = some v0 ∧ wr.cell? ⟨w.heap.size + 1, 1, none⟩ = some v1) ∧ (∀ o, wr.frozen? ⟨w.heap.size + 1, o, none⟩ = false) ∧ (∀ o, wr.frozen? ⟨w2.heap.size, o, none⟩ = false) ∧ wr.cell? ⟨w2.heap.size, 0, none⟩ = some (.int .i64 (mnP ls k)) ∧ wr.cell? ⟨w2.heap.size, 1, none⟩ = some (.int .i64 (mxP ls k)))
    case atStart =>
      have e1 : mnP ls 1 = spd ls 0 := by simp [mnP]
      have e2 : mxP ls 1 = spd ls 0 := by simp [mxP]
      exact ⟨1, rfl, by omega, by omega, by omega, (B2.alloc (by omega) _).drew, by simp, by simp [*, go_sem], by simp [*, go_sem], ⟨_, _, by simp [*, go_sem] <;> rfl, by simp [*, go_sem] <;> rfl⟩, fun o => by simp [*, go_sem], fun o => by simp [*, go_sem], by rw [e1]; simp [*, go_sem], by rw [e2]; simp [*, go_sem]⟩
    case round =>
      clear g0 g1 r0 r1 fR d0
      obtain ⟨k, rfl, h1k, hk, hg, Bk, ltX, g0, g1, ⟨v0, v1, r0, r1⟩, fR', fX, c0, c1'⟩ := hrel
      by_cases hlt : k < ls.length
      · have dk := (Bk.cell (p := ⟨b2, o2 + k, none⟩) hb2).trans (Q2.out k hlt)
        obtain ⟨z, hz⟩ : ∃ z, spd ls (k : Int) = z := ⟨_, rfl⟩
        obtain ⟨mn, hmn⟩ : ∃ z, mnP ls k = z := ⟨_, rfl⟩
        obtain ⟨mx, hmx⟩ : ∃ z, mxP ls k = z := ⟨_, rfl⟩
        have en := Lib.hid (show mnP ls (k + 1) = min mn z by rw [← hmn, ← hz]; rfl)
        have ex := Lib.hid (show mxP ls (k + 1) = max mx z by rw [← hmx, ← hz]; rfl)
        rw [hz] at dk
        rw [hmn] at c0
        rw [hmx] at c1'
        clear hz hmn hmx
        have k3 : (0 : Int) ≤ (k : Int) := by omega
        have k4 : (k : Int) < ls.length := by omega
        have BK := Lib.hid Bk; clear Bk
        go_wp2_with fail
        go_still_tail 17, (by kernel_rfl)
        change wpList _ _ _ _ _ wr.drew
        go_wp2
        all_goals go_roundg (ls.length - (k + 1))
        all_goals first
          | (show ls.length - (k + 1) < gk; omega)
          | (refine ⟨k + 1, by go_num, by omega, by omega, Nat.le_refl _, (by have hb_ := BK.out; first | (go_grown; done) | (refine Below.setCell (Below.setCell (bdrewN hb_ _) ?_ _) ?_ _ <;> (show w.heap.size ≤ w2.heap.size; omega))), by simpa using ltX, by simp [*, go_sem], by simp [*, go_sem], ⟨v0, v1, by simp [*, go_sem], by simp [*, go_sem]⟩, fun o => by simp [*, go_sem], fun o => by simp [*, go_sem], ?_, ?_⟩
             · rw [en.out]
               simp [*, go_sem] <;> omega
             · rw [ex.out]
               simp [*, go_sem] <;> omega)
      · obtain rfl : k = ls.length := by omega
        have BK := Lib.hid Bk; clear Bk
        go_wp2
        refine bodyPost_ret (by simp [results, Try.results28, go_sem, *] <;> rfl) rfl ?_
        exact ⟨by rw [E0.out, E1.out, E2.out], (BK.out.setCell (by show w.heap.size ≤ w.heap.size + 1; omega) _).setCell (by show w.heap.size ≤ w.heap.size + 1; omega) _⟩
  · have hp' : gauB ts ls = false := by simpa using hp
    obtain ⟨e0, e1, e2⟩ := sp_bad hp'
    have H := Lib.hid h; have E0 := Lib.hid e0; have E1 := Lib.hid e1; have E2 := Lib.hid e2; clear h e0 e1 e2 hp
    go_enter Try.func28, Try.ntmps28
    go_wp2_with (go_at_call 49; refine (specIsGauge_any _ _ _ _ _ _ _ ⟨(H.out.1.below (B := w.heap.size) (by first | exact Below.refl _ _ | (go_grown; done) | exact bdrewN (by go_grown) _) (Nat.le_refl _)), (H.out.2.below (B := w.heap.size) (by first | exact Below.refl _ _ | (go_grown; done) | exact bdrewN (by go_grown) _) (Nat.le_refl _))⟩).mono ?_; rintro e w1 ⟨rfl, hb1⟩; obtain ⟨B1, hz1, q1, s1, t1, x1, y1, z1⟩ := bkeep (w := w) [w.heap.size, w.heap.size + 1] (by first | (simp; done) | (simp; omega)) (by first | (go_grown; done) | exact bdrewN (by go_grown) _) hb1; (try simp at hz1); clear hb1)
    refine bodyPost_ret (by simp [results, Try.results28, go_sem, *] <;> rfl) rfl ?_
    exact ⟨by rw [E0.out, E1.out, E2.out], (by first | with_reducible exact B1 | (go_grown; done) | with_reducible exact bdrewN B1 _ | (go_grown <;> first | with_reducible exact bdrewN B1 _ | with_reducible exact B1))⟩
end Go.Proofs.Ytjabldjffpjkeaa
