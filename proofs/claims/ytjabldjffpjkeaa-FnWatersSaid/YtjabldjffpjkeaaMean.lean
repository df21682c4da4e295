/- The mean level: the sum over the gaps, by the program and by the reference. -/
import Derived.Test.YtjabldjffpjkeaaLev0
import Derived.Test.YtjabldjffpjkeaaRatio
import Derived.IntWalk
import Derived.Deep.LoopGhost
import Derived.Deep.RegionHeld3
namespace Go.Proofs.Ytjabldjffpjkeaa
set_option linter.unusedSimpArgs false
set_option linter.unusedVariables false
open Go.RowKit


/-- the sum over the first k gaps -/
def mlF (ts ls : List Int) : Nat → Int
  | 0 => 0
  | k + 1 => mlF ts ls k + (spd ls k + spd ls ((k : Int) + 1)) * (spd ts ((k : Int) + 1) - spd ts k)
structure MlOk (ts ls : List Int) (k : Nat) : Prop where
  d0 : 0 ≤ spd ts k
  d1 : spd ts k < spd ts ((k : Int) + 1)
  d2 : spd ts ((k : Int) + 1) ≤ 1000000
  s0 : -2000 ≤ spd ls k
  s1 : spd ls k ≤ 2000
  s2 : -2000 ≤ spd ls ((k : Int) + 1)
  s3 : spd ls ((k : Int) + 1) ≤ 2000
  n0 : -(4000 * (spd ts ((k : Int) + 1) - spd ts k)) ≤ (spd ls k + spd ls ((k : Int) + 1)) * (spd ts ((k : Int) + 1) - spd ts k)
  n1 : (spd ls k + spd ls ((k : Int) + 1)) * (spd ts ((k : Int) + 1) - spd ts k) ≤ 4000 * (spd ts ((k : Int) + 1) - spd ts k)
theorem mlOk {ts ls : List Int} {k : Nat} (p : GauOk ts ls) (h : k + 1 < ts.length) : MlOk ts ls k := by
  have e : ((k + 1 : Nat) : Int) = (k : Int) + 1 := by omega
  have a1 := p.t k (by omega)
  have a2 := p.t (k + 1) h
  have a3 := p.up k (k + 1) (by omega) h
  have a4 := p.v k (by omega)
  have a5 := p.v (k + 1) h
  rw [e] at a2 a3 a5
  obtain ⟨m1, m2⟩ := mul_bd (a := spd ls k + spd ls ((k : Int) + 1)) (b := spd ts ((k : Int) + 1) - spd ts k) (A := 4000) (B := spd ts ((k : Int) + 1) - spd ts k) (by omega) (by omega) (by omega) (by omega)
  exact ⟨by omega, by omega, by omega, by omega, by omega, by omega, by omega, m1, m2⟩
theorem ml_bd {ts ls : List Int} (p : GauOk ts ls) : ∀ k : Nat, k < ts.length → -(4000 * (spd ts k - spd ts 0)) ≤ mlF ts ls k ∧ mlF ts ls k ≤ 4000 * (spd ts k - spd ts 0) := by
  intro k
  induction k with
  | zero => intro _; simp [mlF]
  | succ k ih =>
    intro h
    have h1 := ih (by omega)
    have q := mlOk p h
    have := q.n0; have := q.n1
    rw [show ((k + 1 : Nat) : Int) = (k : Int) + 1 by omega]
    simp only [mlF]
    omega
theorem ml_bd2 {ts ls : List Int} (p : GauOk ts ls) {k : Nat} (h : k < ts.length) : -4000000000 ≤ mlF ts ls k ∧ mlF ts ls k ≤ 4000000000 := by
  have h1 := ml_bd p k h
  have h2 := p.t k h
  have h3 := p.t 0 (by omega)
  have h4 : 0 ≤ spd ts 0 := by simpa using h3.1
  omega

@[irreducible] def mlC (ts ls : List Int) : Int := if gauB ts ls then (if ts.length = 1 then 5 else ratC (mlF ts ls (ts.length - 1)) (2 * (spd ts ((ts.length - 1 : Nat) : Int) - spd ts 0)) 3) else 1
@[irreducible] def mlN (ts ls : List Int) : Int := if gauB ts ls ∧ ts.length ≠ 1 then ratN (mlF ts ls (ts.length - 1)) (2 * (spd ts ((ts.length - 1 : Nat) : Int) - spd ts 0)) else 0
@[irreducible] def mlD (ts ls : List Int) : Int := if gauB ts ls ∧ ts.length ≠ 1 then ratD (mlF ts ls (ts.length - 1)) (2 * (spd ts ((ts.length - 1 : Nat) : Int) - spd ts 0)) else 0
theorem ml_bad {ts ls : List Int} (h : gauB ts ls = false) : mlC ts ls = 1 ∧ mlN ts ls = 0 ∧ mlD ts ls = 0 := by
  unfold mlC mlN mlD; simp [h]
theorem ml_one {ts ls : List Int} (h : gauB ts ls = true) (h1 : ts.length = 1) : mlC ts ls = 5 ∧ mlN ts ls = 0 ∧ mlD ts ls = 0 := by
  unfold mlC mlN mlD; simp [h, h1]
theorem ml_more {ts ls : List Int} {m : Nat} (h : gauB ts ls = true) (h1 : ts.length = m + 2) : mlC ts ls = ratC (mlF ts ls (m + 1)) (2 * (spd ts ((m : Int) + 1) - spd ts 0)) 3 ∧ mlN ts ls = ratN (mlF ts ls (m + 1)) (2 * (spd ts ((m : Int) + 1) - spd ts 0)) ∧ mlD ts ls = ratD (mlF ts ls (m + 1)) (2 * (spd ts ((m : Int) + 1) - spd ts 0)) := by
  unfold mlC mlN mlD
  simp [h, h1]

set_option maxHeartbeats 400000 in
theorem gFirst_any (A1 A2 : Option Addr) (c1 n2 c2 : Nat) (ts : List Int) (w : World) (h : IntsAt w A1 c1 ts) (h1 : 0 < ts.length) :
    Calls Try.prog 46 #[profV A1 ts.length c1 A2 n2 c2] w fun e w' => e = .returned (.int .i64 (spd ts 0)) ∧ Below w.heap.size w w' := by
  obtain ⟨b1, o1, rfl, hb1, q1⟩ := h.spd (by omega)
  have d0 := q1 0 (by omega)
  have d0 : w.cell? ⟨b1, o1, none⟩ = some (.int .i64 (spd ts 0)) := by simpa using d0
  clear q1 h
  go_enter Try.func46, Try.ntmps46
  go_wp2
  go_ret
  exact ⟨rfl, (by first | (go_grown; done) | (refine bdrewN ?_ _; go_grown; done) | (go_grown <;> (refine bdrewN ?_ _; go_grown; done)))⟩
set_option maxHeartbeats 400000 in
theorem gLast_any (A1 A2 : Option Addr) (c1 n2 c2 : Nat) (ts : List Int) (m : Int) (w : World) (h : IntsAt w A1 c1 ts) (h1 : 0 < ts.length) (hm : (ts.length : Int) - 1 = m) :
    Calls Try.prog 47 #[profV A1 ts.length c1 A2 n2 c2] w fun e w' => e = .returned (.int .i64 (spd ts m)) ∧ Below w.heap.size w w' := by
  have hn := Nat.le_trans h.1 h.2.1
  obtain ⟨b1, o1, rfl, hb1, q1⟩ := h.spd (by omega)
  have d1 := q1 (ts.length - 1) (by omega)
  rw [show ((ts.length - 1 : Nat) : Int) = m by omega] at d1
  subst hm
  have k1 : (0 : Int) ≤ (ts.length : Int) - 1 := by omega
  have k2 : ((ts.length : Int) - 1).toNat = ts.length - 1 := by omega
  have k3 : (ts.length : Int) - 1 < ts.length := by omega
  have k4 : (1 : Int) ≤ ts.length := by omega
  have W0 : IntKind.i64.wrap ((ts.length : Int) - 1) = (ts.length : Int) - 1 := IntWalk.i64_in _ (by omega)
  clear q1 h
  go_enter Try.func47, Try.ntmps47
  go_wp2
  go_ret
  exact ⟨rfl, (by first | (go_grown; done) | (refine bdrewN ?_ _; go_grown; done) | (go_grown <;> (refine bdrewN ?_ _; go_grown; done)))⟩
set_option maxHeartbeats 1000000 in
theorem l12Ratio_any (a b : Int) (w : World) (hb : 1 ≤ b) (hb2 : b ≤ 1000000000) (h1 : -9000000000000000000 ≤ a) (h2 : a ≤ 9000000000000000000) :
    Calls Try.prog 60 #[.int .i64 a, .int .i64 b] w fun e w' => e = .returned (.tuple #[ratV (ratN a b) (ratD a b), .int .i64 (ratC a b 3)]) ∧ Below w.heap.size w w' := by
  by_cases hok : ratOk a b = true
  · have e3 : ratC a b 2 = 0 := by unfold ratC; rw [if_pos hok]
    have e4 : ratC a b 3 = 0 := by unfold ratC; rw [if_pos hok]
    have E4 := Lib.hid e4; clear e4 hok
    go_enter Try.func60, Try.ntmps60
    go_wp2_with (go_at_call 68; refine (l03Make_any _ _ _ hb hb2 h1 h2).mono ?_; rintro e w1 ⟨rfl, hb1⟩; obtain ⟨B1, hz1, q1, s1, t1, x1, y1, z1⟩ := bkeep (w := w) [w.heap.size] (by first | (simp; done) | (simp; omega)) (by first | (go_grown; done) | exact bdrewN (by go_grown) _) hb1; (try simp at hz1); clear hb1)
    refine bodyPost_ret (by simp [results, Try.results60, go_sem, *] <;> rfl) rfl ?_
    exact ⟨by rw [E4.out], (by first | with_reducible exact B1 | (go_grown; done) | with_reducible exact bdrewN B1 _ | (go_grown <;> first | with_reducible exact bdrewN B1 _ | with_reducible exact B1))⟩
  · have e1 : ratN a b = 0 := by unfold ratN; rw [if_neg hok]
    have e2 : ratD a b = 0 := by unfold ratD; rw [if_neg hok]
    have e3 : ratC a b 2 = 2 := by unfold ratC; rw [if_neg hok]
    have e4 : ratC a b 3 = 3 := by unfold ratC; rw [if_neg hok]
    have E4 := Lib.hid e4; clear e4 hok
    go_enter Try.func60, Try.ntmps60
    go_wp2_with (go_at_call 68; refine (l03Make_any _ _ _ hb hb2 h1 h2).mono ?_; rintro e w1 ⟨rfl, hb1⟩; obtain ⟨B1, hz1, q1, s1, t1, x1, y1, z1⟩ := bkeep (w := w) [w.heap.size] (by first | (simp; done) | (simp; omega)) (by first | (go_grown; done) | exact bdrewN (by go_grown) _) hb1; (try simp at hz1); clear hb1)
    refine bodyPost_ret (by simp [results, Try.results60, go_sem, *] <;> rfl) rfl ?_
    exact ⟨by rw [E4.out]; simp [*], (by first | with_reducible exact B1 | (go_grown; done) | with_reducible exact bdrewN B1 _ | (go_grown <;> first | with_reducible exact bdrewN B1 _ | with_reducible exact B1))⟩
set_option maxHeartbeats 4000000 in
theorem implMeanLevel_any (A1 A2 : Option Addr) (c1 c2 : Nat) (ts ls : List Int) (w : World) (h : ProfAt w A1 c1 A2 c2 ts ls) :
    Calls Try.prog 29 #[profV A1 ts.length c1 A2 ls.length c2] w fun e w' => e = .returned (.tuple #[ratV (mlN ts ls) (mlD ts ls), .int .i64 (mlC ts ls)]) ∧ Below w.heap.size w w' := by
  by_cases hp : gauB ts ls = true
  · have p := gauOk_of hp
    have l1 := p.l1; have l2 := p.l2; have l3 := p.l3; have l4 := p.l4
    by_cases h1 : ts.length = 1
    · obtain ⟨e0, e1, e2⟩ := ml_one hp h1
      have hl : ((ts.length : Int) == 1) = true := beq_iff_eq.2 (by omega)
      have H := Lib.hid h; have E0 := Lib.hid e0; have E1 := Lib.hid e1; have E2 := Lib.hid e2; have HL := Lib.hid h1; clear h p e0 e1 e2 h1
      go_enter Try.func29, Try.ntmps29
      go_wp2_with (go_at_call 24; refine (implIsGauge_any _ _ _ _ _ _ _ ⟨(H.out.1.below (B := w.heap.size) (by first | exact Below.refl _ _ | (go_grown; done) | exact bdrewN (by go_grown) _) (Nat.le_refl _)), (H.out.2.below (B := w.heap.size) (by first | exact Below.refl _ _ | (go_grown; done) | exact bdrewN (by go_grown) _) (Nat.le_refl _))⟩).mono ?_; rintro e w1 ⟨rfl, hb1⟩; obtain ⟨B1, hz1, q1, s1, t1, x1, y1, z1⟩ := bkeep (w := w) [w.heap.size, w.heap.size + 1] (by first | (simp; done) | (simp; omega)) (by first | (go_grown; done) | exact bdrewN (by go_grown) _) hb1; (try simp at hz1); clear hb1)
      refine bodyPost_ret (by simp [results, Try.results29, go_sem, *] <;> rfl) rfl ?_
      exact ⟨by rw [E0.out, E1.out, E2.out], (by first | with_reducible exact B1 | (go_grown; done) | with_reducible exact bdrewN B1 _ | (go_grown <;> first | with_reducible exact bdrewN B1 _ | with_reducible exact B1))⟩
    · obtain ⟨m, hm⟩ : ∃ m, ts.length = m + 2 := ⟨ts.length - 2, by omega⟩
      obtain ⟨e0, e1, e2⟩ := ml_more hp hm
      have hl : ((ts.length : Int) == 1) = false := beq_eq_false_iff_ne.2 (by omega)
      obtain ⟨b1, o1, rfl, hb1, q1⟩ := h.1.spd (by omega)
      obtain ⟨b2, o2, rfl, hb2, q2⟩ := h.2.spd (by omega)
      have H := Lib.hid h; have E0 := Lib.hid e0; have E1 := Lib.hid e1; have E2 := Lib.hid e2; have PP := Lib.hid p; have HM := Lib.hid hm; have Q1 := Lib.hid q1; have Q2 := Lib.hid q2
      clear h p e0 e1 e2 h1 hm q1 q2
      go_enter Try.func29, Try.ntmps29
      go_wp2_with (go_at_call 24; refine (implIsGauge_any _ _ _ _ _ _ _ ⟨(H.out.1.below (B := w.heap.size) (by first | exact Below.refl _ _ | (go_grown; done) | exact bdrewN (by go_grown) _) (Nat.le_refl _)), (H.out.2.below (B := w.heap.size) (by first | exact Below.refl _ _ | (go_grown; done) | exact bdrewN (by go_grown) _) (Nat.le_refl _))⟩).mono ?_; rintro e w1 ⟨rfl, hb1⟩; obtain ⟨B1, hz1, q1, s1, t1, x1, y1, z1⟩ := bkeep (w := w) [w.heap.size, w.heap.size + 1] (by first | (simp; done) | (simp; omega)) (by first | (go_grown; done) | exact bdrewN (by go_grown) _) hb1; (try simp at hz1); clear hb1)
      refine genS (S := fun w' => Below (w.heap.size) w w' ∧ w.heap.size + 1 < w'.heap.size ∧ w'.cell? ⟨w.heap.size, 0, none⟩ = some (.slice (some ⟨b1, o1, none⟩) ts.length c1) ∧ w'.cell? ⟨w.heap.size, 1, none⟩ = some (.slice (some ⟨b2, o2, none⟩) ls.length c2) ∧ w'.cell? ⟨w.heap.size + 1, 0, none⟩ = some (.int .i64 0) ∧ w'.cell? ⟨w.heap.size + 1, 1, none⟩ = some (.int .i64 0) ∧ (∀ o, w'.frozen? ⟨w.heap.size + 1, o, none⟩ = false)) ⟨(by first | with_reducible exact B1 | (go_grown; done) | with_reducible exact bdrewN B1 _ | (go_grown <;> first | with_reducible exact bdrewN B1 _ | with_reducible exact B1)), by first | omega | (simp; done) | (simp; omega), by simp [*, go_sem], by simp [*, go_sem], by simp [*, go_sem], by simp [*, go_sem], fun o => by simp [*, go_sem]⟩ ?_
      clear q1 s1 t1 x1 y1
      rintro w3 ⟨B3, lt3_0, c3_0, c3_1, c3_2, c3_3, fz3_0⟩
      have z3 : w.heap.size ≤ w3.heap.size := B3.size
      go_loopg [4, 5] ts.length (fun g s4 s5 wr => ∃ k q : Nat, s4 = .int .i64 (mlF ts ls k) ∧ s5 = .int .i64 ((k + 1 : Nat) : Int) ∧ k + 1 ≤ ts.length ∧ ts.length - k ≤ g ∧ wr = w3.drewN q)
      case atStart => exact ⟨0, 0, rfl, rfl, by omega, by omega, rfl⟩
      case round =>
        obtain ⟨k, q, rfl, rfl, hk, hg, rfl⟩ := hrel
        by_cases hlt : k + 1 < ts.length
        · obtain ⟨g1, g2, g3, g4, g5, g6, g7, g8, g9⟩ := mlOk PP.out hlt
          obtain ⟨g10, g11⟩ := ml_bd2 PP.out (show k < ts.length by omega)
          obtain ⟨g12, g13⟩ := ml_bd2 PP.out hlt
          have es : mlF ts ls (k + 1) = mlF ts ls k + (spd ls k + spd ls ((k : Int) + 1)) * (spd ts ((k : Int) + 1) - spd ts k) := rfl
          have kk : ((k + 1 : Nat) : Int) = (k : Int) + 1 := by omega
          have d0 := (B3.cell (p := ⟨b1, o1 + k, none⟩) hb1).trans (Q1.out k (by omega)); have d1 := (B3.cell (p := ⟨b1, o1 + (k + 1), none⟩) hb1).trans (Q1.out (k + 1) (by omega))
          have s0 := (B3.cell (p := ⟨b2, o2 + k, none⟩) hb2).trans (Q2.out k (by omega)); have s1 := (B3.cell (p := ⟨b2, o2 + (k + 1), none⟩) hb2).trans (Q2.out (k + 1) (by omega))
          rw [kk] at d1 s1
          rw [es] at g12 g13
          have ES := Lib.hid es; clear es
          have k0 : (0 : Int) ≤ k := by omega
          have k1 : (k : Int) < ts.length := by omega
          have k2 : (k : Int) < ls.length := by omega
          have k3 : (0 : Int) ≤ (k : Int) + 1 := by omega
          have k4 : (k : Int) + 1 < ts.length := by omega
          have k5 : (k : Int) + 1 < ls.length := by omega
          have k6 : ((k : Int) + 1).toNat = k + 1 := by omega
          have k7 : (k : Int) + 1 - 1 = k := by omega
          go_wp2_with fail
          have W0 : IntKind.i64.wrap ((k : Int) + 1 - 1) = (k : Int) := by rw [k7]; exact IntWalk.i64_in _ (by omega)
          have W1 : IntKind.i64.wrap (spd ls k + spd ls ((k : Int) + 1)) = spd ls k + spd ls ((k : Int) + 1) := IntWalk.i64_in _ (by omega)
          have W2 : IntKind.i64.wrap (spd ts ((k : Int) + 1) - spd ts k) = spd ts ((k : Int) + 1) - spd ts k := IntWalk.i64_in _ (by omega)
          have W3 : IntKind.i64.wrap ((spd ls k + spd ls ((k : Int) + 1)) * (spd ts ((k : Int) + 1) - spd ts k)) = (spd ls k + spd ls ((k : Int) + 1)) * (spd ts ((k : Int) + 1) - spd ts k) := IntWalk.i64_in _ (by omega)
          have W4 : IntKind.i64.wrap (mlF ts ls k + (spd ls k + spd ls ((k : Int) + 1)) * (spd ts ((k : Int) + 1) - spd ts k)) = mlF ts ls k + (spd ls k + spd ls ((k : Int) + 1)) * (spd ts ((k : Int) + 1) - spd ts k) := IntWalk.i64_in _ (by omega)
          go_quiet (fail)
          clear W0 W1 W2 W3 W4
          go_wp2
          go_roundg (ts.length - (k + 1))
          case measure => omega
          case rel => exact ⟨k + 1, _, by rw [ES.out], by go_num, by omega, Nat.le_refl _, by first | rfl | simp only [World.drewN_drewN]⟩
        · have hm := HM.out
          obtain rfl : k = m + 1 := by omega
          obtain ⟨g10, g11⟩ := ml_bd2 PP.out (show m + 1 < ts.length by omega)
          have a1 := PP.out.t 0 (by omega); have a2 := PP.out.t (m + 1) (by omega); have a3 := PP.out.up 0 (m + 1) (by omega) (by omega)
          have kk : ((m + 1 : Nat) : Int) = (m : Int) + 1 := by omega
          have kz : ((0 : Nat) : Int) = 0 := rfl
          rw [kk] at a2 a3
          rw [kz] at a1 a3
          have r1 : 1 ≤ 2 * (spd ts ((m : Int) + 1) - spd ts 0) := by omega
          have r2 : 2 * (spd ts ((m : Int) + 1) - spd ts 0) ≤ 1000000000 := by omega
          have r3 : -9000000000000000000 ≤ mlF ts ls (m + 1) := by omega
          have r4 : mlF ts ls (m + 1) ≤ 9000000000000000000 := by omega
          have W1 : IntKind.i64.wrap (spd ts ((m : Int) + 1) - spd ts 0) = spd ts ((m : Int) + 1) - spd ts 0 := IntWalk.i64_in _ (by omega)
          have W2 : IntKind.i64.wrap (2 * (spd ts ((m : Int) + 1) - spd ts 0)) = 2 * (spd ts ((m : Int) + 1) - spd ts 0) := IntWalk.i64_in _ (by omega)
          have hlast : (ts.length : Int) - 1 = (m : Int) + 1 := by omega
          have hpos : 0 < ts.length := by omega
          have HL := Lib.hid hlast
          clear a1 a2 a3 g10 g11
          go_wp2_with fail
          refine genS (S := fun w' => Below w.heap.size w w' ∧ w.heap.size + 1 < w'.heap.size ∧ w'.cell? ⟨w.heap.size, 0, none⟩ = some (.slice (some ⟨b1, o1, none⟩) ts.length c1) ∧ w'.cell? ⟨w.heap.size, 1, none⟩ = some (.slice (some ⟨b2, o2, none⟩) ls.length c2) ∧ w'.cell? ⟨w.heap.size + 1, 0, none⟩ = some (.int .i64 0) ∧ w'.cell? ⟨w.heap.size + 1, 1, none⟩ = some (.int .i64 0) ∧ (∀ o, w'.frozen? ⟨w.heap.size + 1, o, none⟩ = false)) ⟨bdrewN B3 _, by simpa using lt3_0, by simp [*, go_sem], by simp [*, go_sem], by simp [*, go_sem], by simp [*, go_sem], fun o => by simp [*, go_sem]⟩ ?_
          clear c3_0 c3_1 c3_2 c3_3 fz3_0 lt3_0 B3 z3
          rintro w4 ⟨B4, lt4_0, c4_0, c4_1, c4_2, c4_3, fz4_0⟩
          have z4 : w.heap.size ≤ w4.heap.size := B4.size
          clear hm hlast kk kz
          go_region_held3 (fun w' => w'.cell? ⟨w.heap.size, 0, none⟩ = some (.slice (some ⟨b1, o1, none⟩) ts.length c1) ∧ w'.cell? ⟨w.heap.size, 1, none⟩ = some (.slice (some ⟨b2, o2, none⟩) ls.length c2)) (first | (go_keep; done) | (simp [*, go_sem]; done))
            (first
              | (go_at_call 47; refine (gLast_any _ _ _ _ _ _ ((m : Int) + 1) _ (H.out.1.below (B := w.heap.size) (by first | exact Below.refl _ _ | (go_grown; done) | exact bdrewN (by go_grown) _) (Nat.le_refl _)) hpos HL.out).mono ?_; rintro e w5 ⟨rfl, hb5⟩; obtain ⟨B5, hz5, q5, s5, t5, x5, y5, z5⟩ := bkeep (w := w) [w.heap.size, w.heap.size + 1] (by first | (simp; done) | (simp; omega)) (by first | (go_grown; done) | exact bdrewN (by go_grown) _) hb5; (try simp at hz5); clear hb5)
              | (go_at_call 46; refine (gFirst_any _ _ _ _ _ _ _ (H.out.1.below (B := w.heap.size) (by first | exact Below.refl _ _ | (go_grown; done) | exact bdrewN (by go_grown) _) (Nat.le_refl _)) hpos).mono ?_; rintro e w6 ⟨rfl, hb6⟩; obtain ⟨B6, hz6, q6, s6, t6, x6, y6, z6⟩ := bkeep (w := w) [w.heap.size, w.heap.size + 1] (by first | (simp; done) | (simp; omega)) (by first | (go_grown; done) | exact bdrewN (by go_grown) _) hb6; (try simp at hz6); clear hb6)
              | (go_at_call 59; refine (implRatio_any _ _ _ _ r1 r2 r3 r4).mono ?_; rintro e w7 ⟨rfl, hb7⟩; obtain ⟨B7, hz7, q7, s7, t7, x7, y7, z7⟩ := bkeep (w := w) [w.heap.size, w.heap.size + 1] (by first | (simp; done) | (simp; omega)) (by first | (go_grown; done) | exact bdrewN (by go_grown) _) hb7; (try simp at hz7); clear hb7))
          clear W1 W2
          go_wp2
          refine bodyPost_ret (by simp [results, Try.results29, go_sem, *] <;> rfl) rfl ?_
          exact ⟨by rw [E0.out, E1.out, E2.out], by first | exact (by first | with_reducible exact B7 | (go_grown; done) | with_reducible exact bdrewN B7 _ | (go_grown <;> first | with_reducible exact bdrewN B7 _ | with_reducible exact B7)) | exact bdrewN B7 _⟩
  · have hp' : gauB ts ls = false := by simpa using hp
    obtain ⟨e0, e1, e2⟩ := ml_bad hp'
    have H := Lib.hid h; have E0 := Lib.hid e0; have E1 := Lib.hid e1; have E2 := Lib.hid e2; clear h e0 e1 e2 hp
    go_enter Try.func29, Try.ntmps29
    go_wp2_with (go_at_call 24; refine (implIsGauge_any _ _ _ _ _ _ _ ⟨(H.out.1.below (B := w.heap.size) (by first | exact Below.refl _ _ | (go_grown; done) | exact bdrewN (by go_grown) _) (Nat.le_refl _)), (H.out.2.below (B := w.heap.size) (by first | exact Below.refl _ _ | (go_grown; done) | exact bdrewN (by go_grown) _) (Nat.le_refl _))⟩).mono ?_; rintro e w1 ⟨rfl, hb1⟩; obtain ⟨B1, hz1, q1, s1, t1, x1, y1, z1⟩ := bkeep (w := w) [w.heap.size, w.heap.size + 1] (by first | (simp; done) | (simp; omega)) (by first | (go_grown; done) | exact bdrewN (by go_grown) _) hb1; (try simp at hz1); clear hb1)
    refine bodyPost_ret (by simp [results, Try.results29, go_sem, *] <;> rfl) rfl ?_
    exact ⟨by rw [E0.out, E1.out, E2.out], (by first | with_reducible exact B1 | (go_grown; done) | with_reducible exact bdrewN B1 _ | (go_grown <;> first | with_reducible exact bdrewN B1 _ | with_reducible exact B1))⟩
set_option maxHeartbeats 4000000 in
theorem specMeanLevel_any (A1 A2 : Option Addr) (c1 c2 : Nat) (ts ls : List Int) (w : World) (h : ProfAt w A1 c1 A2 c2 ts ls) :
    Calls Try.prog 30 #[profV A1 ts.length c1 A2 ls.length c2] w fun e w' => e = .returned (.tuple #[ratV (mlN ts ls) (mlD ts ls), .int .i64 (mlC ts ls)]) ∧ Below w.heap.size w w' := by
  by_cases hp : gauB ts ls = true
  · have p := gauOk_of hp
    have l1 := p.l1; have l2 := p.l2; have l3 := p.l3; have l4 := p.l4
    by_cases h1 : ts.length = 1
    · obtain ⟨e0, e1, e2⟩ := ml_one hp h1
      have hl : ((ts.length : Int) == 1) = true := beq_iff_eq.2 (by omega)
      have H := Lib.hid h; have E0 := Lib.hid e0; have E1 := Lib.hid e1; have E2 := Lib.hid e2; have HL := Lib.hid h1; clear h p e0 e1 e2 h1
      go_enter Try.func30, Try.ntmps30
      go_wp2_with (go_at_call 49; refine (specIsGauge_any _ _ _ _ _ _ _ ⟨(H.out.1.below (B := w.heap.size) (by first | exact Below.refl _ _ | (go_grown; done) | exact bdrewN (by go_grown) _) (Nat.le_refl _)), (H.out.2.below (B := w.heap.size) (by first | exact Below.refl _ _ | (go_grown; done) | exact bdrewN (by go_grown) _) (Nat.le_refl _))⟩).mono ?_; rintro e w1 ⟨rfl, hb1⟩; obtain ⟨B1, hz1, q1, s1, t1, x1, y1, z1⟩ := bkeep (w := w) [w.heap.size, w.heap.size + 1] (by first | (simp; done) | (simp; omega)) (by first | (go_grown; done) | exact bdrewN (by go_grown) _) hb1; (try simp at hz1); clear hb1)
      refine bodyPost_ret (by simp [results, Try.results30, go_sem, *] <;> rfl) rfl ?_
      exact ⟨by rw [E0.out, E1.out, E2.out], (by first | with_reducible exact B1 | (go_grown; done) | with_reducible exact bdrewN B1 _ | (go_grown <;> first | with_reducible exact bdrewN B1 _ | with_reducible exact B1))⟩
    · obtain ⟨m, hm⟩ : ∃ m, ts.length = m + 2 := ⟨ts.length - 2, by omega⟩
      obtain ⟨e0, e1, e2⟩ := ml_more hp hm
      have hl : ((ts.length : Int) == 1) = false := beq_eq_false_iff_ne.2 (by omega)
      obtain ⟨b1, o1, rfl, hb1, q1⟩ := h.1.spd (by omega)
      obtain ⟨b2, o2, rfl, hb2, q2⟩ := h.2.spd (by omega)
      have H := Lib.hid h; have E0 := Lib.hid e0; have E1 := Lib.hid e1; have E2 := Lib.hid e2; have PP := Lib.hid p; have HM := Lib.hid hm; have Q1 := Lib.hid q1; have Q2 := Lib.hid q2
      clear h p e0 e1 e2 h1 hm q1 q2
      go_enter Try.func30, Try.ntmps30
      go_wp2_with (go_at_call 49; refine (specIsGauge_any _ _ _ _ _ _ _ ⟨(H.out.1.below (B := w.heap.size) (by first | exact Below.refl _ _ | (go_grown; done) | exact bdrewN (by go_grown) _) (Nat.le_refl _)), (H.out.2.below (B := w.heap.size) (by first | exact Below.refl _ _ | (go_grown; done) | exact bdrewN (by go_grown) _) (Nat.le_refl _))⟩).mono ?_; rintro e w1 ⟨rfl, hb1⟩; obtain ⟨B1, hz1, q1, s1, t1, x1, y1, z1⟩ := bkeep (w := w) [w.heap.size, w.heap.size + 1] (by first | (simp; done) | (simp; omega)) (by first | (go_grown; done) | exact bdrewN (by go_grown) _) hb1; (try simp at hz1); clear hb1)
      refine genS (S := fun w' => Below (w.heap.size) w w' ∧ w.heap.size + 1 < w'.heap.size ∧ w'.cell? ⟨w.heap.size, 0, none⟩ = some (.slice (some ⟨b1, o1, none⟩) ts.length c1) ∧ w'.cell? ⟨w.heap.size, 1, none⟩ = some (.slice (some ⟨b2, o2, none⟩) ls.length c2) ∧ w'.cell? ⟨w.heap.size + 1, 0, none⟩ = some (.int .i64 0) ∧ w'.cell? ⟨w.heap.size + 1, 1, none⟩ = some (.int .i64 0) ∧ (∀ o, w'.frozen? ⟨w.heap.size + 1, o, none⟩ = false)) ⟨(by first | with_reducible exact B1 | (go_grown; done) | with_reducible exact bdrewN B1 _ | (go_grown <;> first | with_reducible exact bdrewN B1 _ | with_reducible exact B1)), by first | omega | (simp; done) | (simp; omega), by simp [*, go_sem], by simp [*, go_sem], by simp [*, go_sem], by simp [*, go_sem], fun o => by simp [*, go_sem]⟩ ?_
      clear q1 s1 t1 x1 y1
      rintro w3 ⟨B3, lt3_0, c3_0, c3_1, c3_2, c3_3, fz3_0⟩
      have z3 : w.heap.size ≤ w3.heap.size := B3.size
      go_loopg [4, 5] ts.length (fun g s4 s5 wr => ∃ k q : Nat, s4 = .int .i64 (mlF ts ls k) ∧ s5 = .int .i64 ((k + 1 : Nat) : Int) ∧ k + 1 ≤ ts.length ∧ ts.length - k ≤ g ∧ wr = w3.drewN q)
      case atStart => exact ⟨0, 0, rfl, rfl, by omega, by omega, rfl⟩
      case round =>
        obtain ⟨k, q, rfl, rfl, hk, hg, rfl⟩ := hrel
        by_cases hlt : k + 1 < ts.length
        · obtain ⟨g1, g2, g3, g4, g5, g6, g7, g8, g9⟩ := mlOk PP.out hlt
          obtain ⟨g10, g11⟩ := ml_bd2 PP.out (show k < ts.length by omega)
          obtain ⟨g12, g13⟩ := ml_bd2 PP.out hlt
          have es : mlF ts ls (k + 1) = mlF ts ls k + (spd ls k + spd ls ((k : Int) + 1)) * (spd ts ((k : Int) + 1) - spd ts k) := rfl
          have kk : ((k + 1 : Nat) : Int) = (k : Int) + 1 := by omega
          have d0 := (B3.cell (p := ⟨b1, o1 + k, none⟩) hb1).trans (Q1.out k (by omega)); have d1 := (B3.cell (p := ⟨b1, o1 + (k + 1), none⟩) hb1).trans (Q1.out (k + 1) (by omega))
          have s0 := (B3.cell (p := ⟨b2, o2 + k, none⟩) hb2).trans (Q2.out k (by omega)); have s1 := (B3.cell (p := ⟨b2, o2 + (k + 1), none⟩) hb2).trans (Q2.out (k + 1) (by omega))
          rw [kk] at d1 s1
          rw [es] at g12 g13
          have ES := Lib.hid es; clear es
          have k0 : (0 : Int) ≤ k := by omega
          have k1 : (k : Int) < ts.length := by omega
          have k2 : (k : Int) < ls.length := by omega
          have k3 : (0 : Int) ≤ (k : Int) + 1 := by omega
          have k4 : (k : Int) + 1 < ts.length := by omega
          have k5 : (k : Int) + 1 < ls.length := by omega
          have k6 : ((k : Int) + 1).toNat = k + 1 := by omega
          have k7 : (k : Int) + 1 - 1 = k := by omega
          go_wp2_with fail
          have W0 : IntKind.i64.wrap ((k : Int) + 1 - 1) = (k : Int) := by rw [k7]; exact IntWalk.i64_in _ (by omega)
          have W1 : IntKind.i64.wrap (spd ls k + spd ls ((k : Int) + 1)) = spd ls k + spd ls ((k : Int) + 1) := IntWalk.i64_in _ (by omega)
          have W2 : IntKind.i64.wrap (spd ts ((k : Int) + 1) - spd ts k) = spd ts ((k : Int) + 1) - spd ts k := IntWalk.i64_in _ (by omega)
          have W3 : IntKind.i64.wrap ((spd ls k + spd ls ((k : Int) + 1)) * (spd ts ((k : Int) + 1) - spd ts k)) = (spd ls k + spd ls ((k : Int) + 1)) * (spd ts ((k : Int) + 1) - spd ts k) := IntWalk.i64_in _ (by omega)
          have W4 : IntKind.i64.wrap (mlF ts ls k + (spd ls k + spd ls ((k : Int) + 1)) * (spd ts ((k : Int) + 1) - spd ts k)) = mlF ts ls k + (spd ls k + spd ls ((k : Int) + 1)) * (spd ts ((k : Int) + 1) - spd ts k) := IntWalk.i64_in _ (by omega)
          go_quiet (fail)
          clear W0 W1 W2 W3 W4
          go_wp2
          go_roundg (ts.length - (k + 1))
          case measure => omega
          case rel => exact ⟨k + 1, _, by rw [ES.out], by go_num, by omega, Nat.le_refl _, by first | rfl | simp only [World.drewN_drewN]⟩
        · have hm := HM.out
          obtain rfl : k = m + 1 := by omega
          obtain ⟨g10, g11⟩ := ml_bd2 PP.out (show m + 1 < ts.length by omega)
          have a1 := PP.out.t 0 (by omega); have a2 := PP.out.t (m + 1) (by omega); have a3 := PP.out.up 0 (m + 1) (by omega) (by omega)
          have kk : ((m + 1 : Nat) : Int) = (m : Int) + 1 := by omega
          have kz : ((0 : Nat) : Int) = 0 := rfl
          rw [kk] at a2 a3
          rw [kz] at a1 a3
          have r1 : 1 ≤ 2 * (spd ts ((m : Int) + 1) - spd ts 0) := by omega
          have r2 : 2 * (spd ts ((m : Int) + 1) - spd ts 0) ≤ 1000000000 := by omega
          have r3 : -9000000000000000000 ≤ mlF ts ls (m + 1) := by omega
          have r4 : mlF ts ls (m + 1) ≤ 9000000000000000000 := by omega
          have W1 : IntKind.i64.wrap (spd ts ((m : Int) + 1) - spd ts 0) = spd ts ((m : Int) + 1) - spd ts 0 := IntWalk.i64_in _ (by omega)
          have W2 : IntKind.i64.wrap (2 * (spd ts ((m : Int) + 1) - spd ts 0)) = 2 * (spd ts ((m : Int) + 1) - spd ts 0) := IntWalk.i64_in _ (by omega)
          have hlast : (ts.length : Int) - 1 = (m : Int) + 1 := by omega
          have hpos : 0 < ts.length := by omega
          have HL := Lib.hid hlast
          clear a1 a2 a3 g10 g11
          go_wp2_with fail
          refine genS (S := fun w' => Below w.heap.size w w' ∧ w.heap.size + 1 < w'.heap.size ∧ w'.cell? ⟨w.heap.size, 0, none⟩ = some (.slice (some ⟨b1, o1, none⟩) ts.length c1) ∧ w'.cell? ⟨w.heap.size, 1, none⟩ = some (.slice (some ⟨b2, o2, none⟩) ls.length c2) ∧ w'.cell? ⟨w.heap.size + 1, 0, none⟩ = some (.int .i64 0) ∧ w'.cell? ⟨w.heap.size + 1, 1, none⟩ = some (.int .i64 0) ∧ (∀ o, w'.frozen? ⟨w.heap.size + 1, o, none⟩ = false)) ⟨bdrewN B3 _, by simpa using lt3_0, by simp [*, go_sem], by simp [*, go_sem], by simp [*, go_sem], by simp [*, go_sem], fun o => by simp [*, go_sem]⟩ ?_
          clear c3_0 c3_1 c3_2 c3_3 fz3_0 lt3_0 B3 z3
          rintro w4 ⟨B4, lt4_0, c4_0, c4_1, c4_2, c4_3, fz4_0⟩
          have z4 : w.heap.size ≤ w4.heap.size := B4.size
          have dw0 := Q1.out 0 (by omega)
          rw [kz, Nat.add_zero] at dw0
          have dw1 := Q1.out (ts.length - 1) (by omega)
          rw [show ((ts.length - 1 : Nat) : Int) = (m : Int) + 1 by omega] at dw1
          have d0 := (B4.cell (p := ⟨b1, o1, none⟩) hb1).trans dw0
          have d1 := (B4.cell (p := ⟨b1, o1 + (ts.length - 1), none⟩) hb1).trans dw1
          have k1 : (0 : Int) ≤ (ts.length : Int) - 1 := by omega
          have k2 : ((ts.length : Int) - 1).toNat = ts.length - 1 := by omega
          have k3 : (ts.length : Int) - 1 < ts.length := by omega
          have k4 : (1 : Int) ≤ ts.length := by omega
          have W0 : IntKind.i64.wrap ((ts.length : Int) - 1) = (ts.length : Int) - 1 := IntWalk.i64_in _ (by omega)
          clear hm hlast kk kz
          go_region_held3 (fun w' => w'.cell? ⟨b1, o1, none⟩ = some (.int .i64 (spd ts 0)) ∧ w'.cell? ⟨b1, o1 + (ts.length - 1), none⟩ = some (.int .i64 (spd ts ((m : Int) + 1))) ∧ w'.cell? ⟨w.heap.size, 0, none⟩ = some (.slice (some ⟨b1, o1, none⟩) ts.length c1) ∧ w'.cell? ⟨w.heap.size, 1, none⟩ = some (.slice (some ⟨b2, o2, none⟩) ls.length c2)) (first | (go_keep; done) | (simp [*, go_sem]; done))
            (first
              | (go_at_call 60; refine (l12Ratio_any _ _ _ r1 r2 r3 r4).mono ?_; rintro e w7 ⟨rfl, hb7⟩; obtain ⟨B7, hz7, q7, s7, t7, x7, y7, z7⟩ := bkeep (w := w) [w.heap.size, w.heap.size + 1] (by first | (simp; done) | (simp; omega)) (by first | (go_grown; done) | exact bdrewN (by go_grown) _) hb7; (try simp at hz7); clear hb7))
          clear W1 W2
          go_wp2
          refine bodyPost_ret (by simp [results, Try.results30, go_sem, *] <;> rfl) rfl ?_
          exact ⟨by rw [E0.out, E1.out, E2.out], by first | exact (by first | with_reducible exact B7 | (go_grown; done) | with_reducible exact bdrewN B7 _ | (go_grown <;> first | with_reducible exact bdrewN B7 _ | with_reducible exact B7)) | exact bdrewN B7 _⟩
  · have hp' : gauB ts ls = false := by simpa using hp
    obtain ⟨e0, e1, e2⟩ := ml_bad hp'
    have H := Lib.hid h; have E0 := Lib.hid e0; have E1 := Lib.hid e1; have E2 := Lib.hid e2; clear h e0 e1 e2 hp
    go_enter Try.func30, Try.ntmps30
    go_wp2_with (go_at_call 49; refine (specIsGauge_any _ _ _ _ _ _ _ ⟨(H.out.1.below (B := w.heap.size) (by first | exact Below.refl _ _ | (go_grown; done) | exact bdrewN (by go_grown) _) (Nat.le_refl _)), (H.out.2.below (B := w.heap.size) (by first | exact Below.refl _ _ | (go_grown; done) | exact bdrewN (by go_grown) _) (Nat.le_refl _))⟩).mono ?_; rintro e w1 ⟨rfl, hb1⟩; obtain ⟨B1, hz1, q1, s1, t1, x1, y1, z1⟩ := bkeep (w := w) [w.heap.size, w.heap.size + 1] (by first | (simp; done) | (simp; omega)) (by first | (go_grown; done) | exact bdrewN (by go_grown) _) hb1; (try simp at hz1); clear hb1)
    refine bodyPost_ret (by simp [results, Try.results30, go_sem, *] <;> rfl) rfl ?_
    exact ⟨by rw [E0.out, E1.out, E2.out], (by first | with_reducible exact B1 | (go_grown; done) | with_reducible exact bdrewN B1 _ | (go_grown <;> first | with_reducible exact bdrewN B1 _ | with_reducible exact B1))⟩
end Go.Proofs.Ytjabldjffpjkeaa
