/- The law of FnWaters: a joined gauge has the levels of its first part there, and high waters are higher than what is before. -/
import Derived.Test.YtjabldjffpjkeaaDrawJoin
import Derived.Test.YtjabldjffpjkeaaLev2
import Derived.Test.YtjabldjffpjkeaaJoin2
import Derived.Test.YtjabldjffpjkeaaHw
import Derived.Test.YtjabldjffpjkeaaDice
import Derived.Test.YtjabldjffpjkeaaBig
import Derived.Test.YtjabldjffpjkeaaLike
namespace Go.Proofs.Ytjabldjffpjkeaa
set_option linter.unusedSimpArgs false
set_option linter.unusedVariables false
open Go.RowKit

theorem spd_app {xs ys : List Int} {k : Nat} (h : k < xs.length) : spd (xs ++ ys) k = spd xs k := by
  unfold spd
  rw [Int.toNat_natCast, List.getElem?_append_left h]
theorem spd_app2 {xs ys : List Int} {k : Nat} : spd (xs ++ ys) ((xs.length + k : Nat) : Int) = spd ys k := by
  unfold spd
  rw [Int.toNat_natCast, List.getElem?_append_right (by omega), Int.toNat_natCast, Nat.add_sub_cancel_left]
theorem bs_uniq {ts : List Int} {x : Int} {i j : Nat} (h : BsAt ts x i) (g : BsAt ts x j) : i = j := by
  rcases Nat.lt_trichotomy i j with e | e | e
  · have := g.lo i e; have := h.hi i (Nat.le_refl _) (by have := g.le; omega); omega
  · exact e
  · have := h.lo j e; have := g.hi j (Nat.le_refl _) (by have := h.le; omega); omega
structure JgIs (ts ls us ms : List Int) : Prop where
  g1 : gauB ts ls = true
  g2 : gauB us ms = true
  lt : spd ts ((ts.length : Int) - 1) < spd us 0
  n : ts.length + us.length ≤ 40
  eT : jgT ts ls us ms = ts ++ us
  eL : jgL ts ls us ms = ls ++ ms
theorem jg_is {ts ls us ms : List Int} (h : jgC ts ls us ms = 0) : JgIs ts ls us ms := by
  have hg : (gauB ts ls && gauB us ms) = true := by
    cases hh : (gauB ts ls && gauB us ms) with
    | true => rfl
    | false => have := jg_bad hh; omega
  have h1 : ¬ spd us 0 ≤ spd ts ((ts.length : Int) - 1) := fun g => by have := jg_state hg g; omega
  have h2 : ¬ 40 < ts.length + us.length := fun g => by have := jg_lim hg h1 g; omega
  obtain ⟨-, e1, e2⟩ := jg_ok hg h1 h2
  simp only [Bool.and_eq_true] at hg
  exact ⟨hg.1, hg.2, by omega, by omega, e1, e2⟩
theorem up_all {xs : List Int} (h : risB xs 1000001 = true) : ∀ k : Nat, k + 1 < xs.length → spd xs k < spd xs ((k + 1 : Nat) : Int) := fun k hk => ris_lt h (spd_get (by omega)) (spd_get hk)
/-- a joined gauge is one -/
theorem jg_gau {ts ls us ms : List Int} (j : JgIs ts ls us ms) : gauB (ts ++ us) (ls ++ ms) = true := by
  have p := gauOk_of j.g1
  have q := gauOk_of j.g2
  have p1 := p.l1; have p3 := p.l3; have p4 := p.l4; have q1 := q.l1; have q3 := q.l3; have q4 := q.l4
  have hn := j.n
  have a1 := j.g1; have a2 := j.g2
  simp only [gauB, Bool.and_eq_true, decide_eq_true_eq] at a1 a2
  obtain ⟨⟨⟨⟨-, -⟩, r1⟩, -⟩, v1⟩ := a1
  obtain ⟨⟨⟨⟨-, -⟩, r2⟩, -⟩, v2⟩ := a2
  have hr : risB (ts ++ us) 1000001 = true := by
    apply ris_done
    intro i hi
    rw [List.length_append] at hi
    have hin : ∀ k, k < ts.length + us.length → 0 ≤ spd (ts ++ us) k ∧ spd (ts ++ us) k < 1000001 := by
      intro k hk
      by_cases h1 : k < ts.length
      · rw [spd_app h1]; have := p.t k h1; omega
      · obtain ⟨m, rfl⟩ : ∃ m, k = ts.length + m := ⟨k - ts.length, by omega⟩
        rw [spd_app2]; have := q.t m (by omega); omega
    have hup : ∀ k, k + 1 < ts.length + us.length → spd (ts ++ us) k < spd (ts ++ us) ((k + 1 : Nat) : Int) := by
      intro k hk
      by_cases h1 : k + 1 < ts.length
      · rw [spd_app h1, spd_app (by omega)]; exact up_all r1 k h1
      · by_cases h2 : k + 1 = ts.length
        · have e1 : spd (ts ++ us) ((k + 1 : Nat) : Int) = spd us 0 := by
            have := spd_app2 (xs := ts) (ys := us) (k := 0)
            rw [Nat.add_zero] at this
            rw [h2, this]; rfl
          rw [e1, spd_app (by omega)]
          have := j.lt
          rwa [show (ts.length : Int) - 1 = (k : Int) by omega] at this
        · obtain ⟨m, rfl⟩ : ∃ m, k = ts.length + m := ⟨k - ts.length, by omega⟩
          rw [spd_app2, show ts.length + m + 1 = ts.length + (m + 1) by omega, spd_app2]
          exact up_all r2 m (by omega)
    have hg : (ts ++ us)[i]? = some (spd (ts ++ us) i) := spd_get (by rw [List.length_append]; exact hi)
    have hb := hin i hi
    rcases i with _ | i
    · rw [okAt_zero hg]
      simp only [Bool.and_eq_true, decide_eq_true_eq]
      exact hb
    · have hg2 : (ts ++ us)[i]? = some (spd (ts ++ us) i) := spd_get (by rw [List.length_append]; omega)
      rw [okAt_succ hg hg2]
      simp only [Bool.and_eq_true, decide_eq_true_eq]
      exact ⟨hb, hup i hi⟩
  simp only [gauB, Bool.and_eq_true, decide_eq_true_eq, List.length_append, List.all_append]
  exact ⟨⟨⟨⟨by omega, by omega⟩, hr⟩, by omega⟩, v1, v2⟩
/-- what the law asks of the levels of a joined gauge -/
theorem jg_level {ts ls us ms : List Int} (j : JgIs ts ls us ms) {x : Int} (h1 : spd ts 0 ≤ x) (h2 : x ≤ spd ts ((ts.length : Int) - 1)) :
    lvE ts ls x = 0 ∧ lvE (ts ++ us) (ls ++ ms) x = 0 ∧ lvLo (ts ++ us) (ls ++ ms) x = lvLo ts ls x ∧ lvHi (ts ++ us) (ls ++ ms) x = lvHi ts ls x := by
  have p := gauOk_of j.g1
  have q := gauOk_of (jg_gau j)
  have p1 := p.l1; have p3 := p.l3; have p4 := p.l4
  obtain ⟨e0, e1, e2⟩ := lv_good (x := x) j.g1
  obtain ⟨f0, f1, f2⟩ := lv_good (x := x) (jg_gau j)
  rw [e0, f0, e1, f1, e2, f2]
  have t0 := p.t 0 (by omega)
  have tn := p.t (ts.length - 1) (by omega)
  rw [show ((ts.length - 1 : Nat) : Int) = (ts.length : Int) - 1 by omega] at tn
  rw [show ((0 : Nat) : Int) = 0 from rfl] at t0
  have hin : inB x 0 1000000 = true := by simp [inB]; omega
  have B := bs_at p x
  obtain ⟨i, hi⟩ : ∃ i, bsI ts x = i := ⟨_, rfl⟩
  rw [hi] at B
  have hlt : i < ts.length := by
    rcases Nat.lt_or_ge i ts.length with h | h
    · exact h
    · have := B.lo (ts.length - 1) (by omega)
      rw [show ((ts.length - 1 : Nat) : Int) = (ts.length : Int) - 1 by omega] at this
      omega
  have B' : BsAt (ts ++ us) x i := by
    refine ⟨by rw [List.length_append]; omega, fun k hk => by rw [spd_app (by omega)]; exact B.lo k hk, fun k hk hl => ?_⟩
    rcases Nat.lt_or_ge i k with h | h
    · have a := q.up i k h hl
      have b := B.hi i (Nat.le_refl _) hlt
      rw [spd_app hlt] at a
      omega
    · have : k = i := by omega
      subst this
      rw [spd_app hlt]; exact B.hi k (Nat.le_refl _) hlt
  have hi' : bsI (ts ++ us) x = i := bs_uniq (bs_at q x) B'
  by_cases hf : spd ts i = x
  · obtain ⟨a0, a1, a2⟩ := lv_found (ls := ls) hin hi hlt hf
    obtain ⟨b0, b1, b2⟩ := lv_found (ts := ts ++ us) (ls := ls ++ ms) hin hi' (by rw [List.length_append]; omega) (by rw [spd_app hlt]; exact hf)
    rw [a0, a1, a2, b0, b1, b2, spd_app (by omega)]
    exact ⟨rfl, rfl, rfl, rfl⟩
  · obtain ⟨k, rfl⟩ : ∃ k, i = k + 1 := by
      rcases i with _ | k
      · exfalso
        have := B.hi 0 (Nat.le_refl _) hlt
        rw [show ((0 : Nat) : Int) = 0 from rfl] at this hf
        omega
      · exact ⟨k, rfl⟩
    have kk : ((k + 1 : Nat) : Int) = (k : Int) + 1 := by omega
    rw [kk] at hf
    have s1 : spd (ts ++ us) ((k : Int) + 1) = spd ts ((k : Int) + 1) := by rw [← kk]; exact spd_app hlt
    have s2 : spd (ls ++ ms) ((k : Int) + 1) = spd ls ((k : Int) + 1) := by rw [← kk]; exact spd_app (by omega)
    obtain ⟨a0, a1, a2⟩ := lv_inner (ls := ls) hin hi hlt hf
    obtain ⟨b0, b1, b2⟩ := lv_inner (ts := ts ++ us) (ls := ls ++ ms) hin hi' (by rw [List.length_append]; omega) (by rw [s1]; exact hf)
    rw [a0, a1, a2, b0, b1, b2, s1, s2, spd_app (show k < ts.length by omega), spd_app (show k < ls.length by omega)]
    exact ⟨rfl, rfl, rfl, rfl⟩

set_option maxRecDepth 100000 in
set_option maxHeartbeats 8000000 in
theorem lawWaters_any (A : Option Addr) (c : Nat) (xs : List Int) (w : World) (h : BytesAt w A c xs) :
    Calls Try.prog 4 #[.slice A xs.length c] w fun e w' => e = .returned (.bool true) ∧ Below w.heap.size w w' := by
  have hn := Nat.le_trans h.1 h.2.1
  have H := Lib.hid h; clear h
  by_cases hbig : (4096 : Int) < xs.length
  · go_enter Try.func4, Try.ntmps4
    go_wp2_with (go_at_call 6; refine (big_any _ _ _ _ hn).mono ?_; rintro e w' ⟨rfl, rfl⟩)
    go_ret
    exact ⟨rfl, Below.refl _ _⟩
  · go_enter Try.func4, Try.ntmps4
    go_wp2_with (go_at_call 6; refine (big_any _ _ _ _ hn).mono ?_; rintro e w' ⟨rfl, rfl⟩)
    refine (drawJoin_any A c xs _ H.out).mono ?_
    rintro e w3 ⟨⟨A1, c1, A2, c2, ts, ls, A3, c3, A4, c4, us, ms, rfl, p1, p2⟩, hb3⟩
    have P := Lib.hid p1; have Q := Lib.hid p2
    have HX := Lib.hid (H.out.below hb3 (Nat.le_refl _))
    have B3 := Lib.hid hb3; clear p1 p2 hb3
    go_wp2_with fail
    refine (implJoin_any _ _ _ _ _ _ _ _ _ _ _ _ _ (P.out.below (B := w3.heap.size) (by first | exact Below.refl _ _ | (go_grown; done) | exact bdrewN (by go_grown) _) (Nat.le_refl _)) (Q.out.below (B := w3.heap.size) (by first | exact Below.refl _ _ | (go_grown; done) | exact bdrewN (by go_grown) _) (Nat.le_refl _))).mono ?_
    rintro e w4 ⟨⟨D1, d1, D2, d2, rfl, rr⟩, hb4⟩
    have P := Lib.hid (((P.out).below (B := w3.heap.size) (by first | exact Below.refl _ _ | (go_grown; done) | exact bdrewN (by go_grown) _) (Nat.le_refl _)).below hb4 (Nat.le_refl _))
    have Q := Lib.hid (((Q.out).below (B := w3.heap.size) (by first | exact Below.refl _ _ | (go_grown; done) | exact bdrewN (by go_grown) _) (Nat.le_refl _)).below hb4 (Nat.le_refl _))
    have HX := Lib.hid (((HX.out).below (B := w3.heap.size) (by first | exact Below.refl _ _ | (go_grown; done) | exact bdrewN (by go_grown) _) (Nat.le_refl _)).below hb4 (Nat.le_refl _))
    have X := Lib.hid (rr.at)
    obtain ⟨B4, hz4, q4, s4, t4, x4, y4, z4⟩ := bkeep (w := w3) [w3.heap.size, w3.heap.size + 1] (by first | (simp; done) | (simp; omega)) (by first | (go_grown; done) | exact bdrewN (by go_grown) _) hb4; (try simp at hz4); clear hb4
    clear rr
    go_wp2_with fail
    refine (specJoin_any _ _ _ _ _ _ _ _ _ _ _ _ _ (P.out.below (B := w4.heap.size) (by first | exact Below.refl _ _ | (go_grown; done) | exact bdrewN (by go_grown) _) (Nat.le_refl _)) (Q.out.below (B := w4.heap.size) (by first | exact Below.refl _ _ | (go_grown; done) | exact bdrewN (by go_grown) _) (Nat.le_refl _))).mono ?_
    rintro e w5 ⟨⟨D3, d3, D4, d4, rfl, rr⟩, hb5⟩
    have P := Lib.hid (((P.out).below (B := w4.heap.size) (by first | exact Below.refl _ _ | (go_grown; done) | exact bdrewN (by go_grown) _) (Nat.le_refl _)).below hb5 (Nat.le_refl _))
    have Q := Lib.hid (((Q.out).below (B := w4.heap.size) (by first | exact Below.refl _ _ | (go_grown; done) | exact bdrewN (by go_grown) _) (Nat.le_refl _)).below hb5 (Nat.le_refl _))
    have HX := Lib.hid (((HX.out).below (B := w4.heap.size) (by first | exact Below.refl _ _ | (go_grown; done) | exact bdrewN (by go_grown) _) (Nat.le_refl _)).below hb5 (Nat.le_refl _))
    have X := Lib.hid (((X.out).below (B := w4.heap.size) (by first | exact Below.refl _ _ | (go_grown; done) | exact bdrewN (by go_grown) _) (Nat.le_refl _)).below hb5 (Nat.le_refl _))
    have M := Lib.hid (rr.at)
    obtain ⟨B5, hz5, q5, s5, t5, x5, y5, z5⟩ := bkeep (w := w3) [w3.heap.size, w3.heap.size + 1, w4.heap.size] (by first | (simp; done) | (simp; omega)) (by first | (go_grown; done) | exact bdrewN (by go_grown) _) hb5; (try simp at hz5); clear hb5
    clear rr
    go_wp2_with fail
    refine (drawHighWaters_any A c xs _ (HX.out.below (B := w5.heap.size) (by first | exact Below.refl _ _ | (go_grown; done) | exact bdrewN (by go_grown) _) (Nat.le_refl _))).mono ?_
    rintro e w6 ⟨⟨E1, e1, E2, e2, vs, ns, rfl, rr⟩, hb6⟩
    have P := Lib.hid (((P.out).below (B := w5.heap.size) (by first | exact Below.refl _ _ | (go_grown; done) | exact bdrewN (by go_grown) _) (Nat.le_refl _)).below hb6 (Nat.le_refl _))
    have Q := Lib.hid (((Q.out).below (B := w5.heap.size) (by first | exact Below.refl _ _ | (go_grown; done) | exact bdrewN (by go_grown) _) (Nat.le_refl _)).below hb6 (Nat.le_refl _))
    have HX := Lib.hid (((HX.out).below (B := w5.heap.size) (by first | exact Below.refl _ _ | (go_grown; done) | exact bdrewN (by go_grown) _) (Nat.le_refl _)).below hb6 (Nat.le_refl _))
    have X := Lib.hid (((X.out).below (B := w5.heap.size) (by first | exact Below.refl _ _ | (go_grown; done) | exact bdrewN (by go_grown) _) (Nat.le_refl _)).below hb6 (Nat.le_refl _))
    have M := Lib.hid (((M.out).below (B := w5.heap.size) (by first | exact Below.refl _ _ | (go_grown; done) | exact bdrewN (by go_grown) _) (Nat.le_refl _)).below hb6 (Nat.le_refl _))
    have E := Lib.hid (rr)
    obtain ⟨B6, hz6, q6, s6, t6, x6, y6, z6⟩ := bkeep (w := w3) [w3.heap.size, w3.heap.size + 1, w4.heap.size, w5.heap.size] (by first | (simp; done) | (simp; omega)) (by first | (go_grown; done) | exact bdrewN (by go_grown) _) hb6; (try simp at hz6); clear hb6
    clear rr
    go_wp2_with fail
    refine (implHigh_any _ _ _ _ _ _ _ (E.out.below (B := w6.heap.size) (by first | exact Below.refl _ _ | (go_grown; done) | exact bdrewN (by go_grown) _) (Nat.le_refl _))).mono ?_
    rintro e w7 ⟨⟨F1, f1, rfl, rr⟩, hb7⟩
    have P := Lib.hid (((P.out).below (B := w6.heap.size) (by first | exact Below.refl _ _ | (go_grown; done) | exact bdrewN (by go_grown) _) (Nat.le_refl _)).below hb7 (Nat.le_refl _))
    have Q := Lib.hid (((Q.out).below (B := w6.heap.size) (by first | exact Below.refl _ _ | (go_grown; done) | exact bdrewN (by go_grown) _) (Nat.le_refl _)).below hb7 (Nat.le_refl _))
    have HX := Lib.hid (((HX.out).below (B := w6.heap.size) (by first | exact Below.refl _ _ | (go_grown; done) | exact bdrewN (by go_grown) _) (Nat.le_refl _)).below hb7 (Nat.le_refl _))
    have X := Lib.hid (((X.out).below (B := w6.heap.size) (by first | exact Below.refl _ _ | (go_grown; done) | exact bdrewN (by go_grown) _) (Nat.le_refl _)).below hb7 (Nat.le_refl _))
    have M := Lib.hid (((M.out).below (B := w6.heap.size) (by first | exact Below.refl _ _ | (go_grown; done) | exact bdrewN (by go_grown) _) (Nat.le_refl _)).below hb7 (Nat.le_refl _))
    have E := Lib.hid (((E.out).below (B := w6.heap.size) (by first | exact Below.refl _ _ | (go_grown; done) | exact bdrewN (by go_grown) _) (Nat.le_refl _)).below hb7 (Nat.le_refl _))
    have L := Lib.hid (rr.at)
    obtain ⟨B7, hz7, q7, s7, t7, x7, y7, z7⟩ := bkeep (w := w3) [w3.heap.size, w3.heap.size + 1, w4.heap.size, w5.heap.size, w6.heap.size] (by first | (simp; done) | (simp; omega)) (by first | (go_grown; done) | exact bdrewN (by go_grown) _) hb7; (try simp at hz7); clear hb7
    clear rr
    go_wp2_with fail
    refine (specHigh_any _ _ _ _ _ _ _ (E.out.below (B := w7.heap.size) (by first | exact Below.refl _ _ | (go_grown; done) | exact bdrewN (by go_grown) _) (Nat.le_refl _))).mono ?_
    rintro e w8 ⟨⟨F2, f2, rfl, rr⟩, hb8⟩
    have P := Lib.hid (((P.out).below (B := w7.heap.size) (by first | exact Below.refl _ _ | (go_grown; done) | exact bdrewN (by go_grown) _) (Nat.le_refl _)).below hb8 (Nat.le_refl _))
    have Q := Lib.hid (((Q.out).below (B := w7.heap.size) (by first | exact Below.refl _ _ | (go_grown; done) | exact bdrewN (by go_grown) _) (Nat.le_refl _)).below hb8 (Nat.le_refl _))
    have HX := Lib.hid (((HX.out).below (B := w7.heap.size) (by first | exact Below.refl _ _ | (go_grown; done) | exact bdrewN (by go_grown) _) (Nat.le_refl _)).below hb8 (Nat.le_refl _))
    have X := Lib.hid (((X.out).below (B := w7.heap.size) (by first | exact Below.refl _ _ | (go_grown; done) | exact bdrewN (by go_grown) _) (Nat.le_refl _)).below hb8 (Nat.le_refl _))
    have M := Lib.hid (((M.out).below (B := w7.heap.size) (by first | exact Below.refl _ _ | (go_grown; done) | exact bdrewN (by go_grown) _) (Nat.le_refl _)).below hb8 (Nat.le_refl _))
    have E := Lib.hid (((E.out).below (B := w7.heap.size) (by first | exact Below.refl _ _ | (go_grown; done) | exact bdrewN (by go_grown) _) (Nat.le_refl _)).below hb8 (Nat.le_refl _))
    have L := Lib.hid (((L.out).below (B := w7.heap.size) (by first | exact Below.refl _ _ | (go_grown; done) | exact bdrewN (by go_grown) _) (Nat.le_refl _)).below hb8 (Nat.le_refl _))
    have G := Lib.hid (rr.at)
    obtain ⟨B8, hz8, q8, s8, t8, x8, y8, z8⟩ := bkeep (w := w3) [w3.heap.size, w3.heap.size + 1, w4.heap.size, w5.heap.size, w6.heap.size] (by first | (simp; done) | (simp; omega)) (by first | (go_grown; done) | exact bdrewN (by go_grown) _) hb8; (try simp at hz8); clear hb8
    clear rr
    go_wp2_with fail
    refine (likeGauges9_same _ _ _ _ _ _ _ _ _ _ _ (X.out.below (B := w8.heap.size) (by first | exact Below.refl _ _ | (go_grown; done) | exact bdrewN (by go_grown) _) (Nat.le_refl _)) (M.out.below (B := w8.heap.size) (by first | exact Below.refl _ _ | (go_grown; done) | exact bdrewN (by go_grown) _) (Nat.le_refl _))).mono ?_
    rintro e w9 ⟨rfl, hb9⟩
    have P := Lib.hid (((P.out).below (B := w8.heap.size) (by first | exact Below.refl _ _ | (go_grown; done) | exact bdrewN (by go_grown) _) (Nat.le_refl _)).below hb9 (Nat.le_refl _))
    have Q := Lib.hid (((Q.out).below (B := w8.heap.size) (by first | exact Below.refl _ _ | (go_grown; done) | exact bdrewN (by go_grown) _) (Nat.le_refl _)).below hb9 (Nat.le_refl _))
    have HX := Lib.hid (((HX.out).below (B := w8.heap.size) (by first | exact Below.refl _ _ | (go_grown; done) | exact bdrewN (by go_grown) _) (Nat.le_refl _)).below hb9 (Nat.le_refl _))
    have X := Lib.hid (((X.out).below (B := w8.heap.size) (by first | exact Below.refl _ _ | (go_grown; done) | exact bdrewN (by go_grown) _) (Nat.le_refl _)).below hb9 (Nat.le_refl _))
    have M := Lib.hid (((M.out).below (B := w8.heap.size) (by first | exact Below.refl _ _ | (go_grown; done) | exact bdrewN (by go_grown) _) (Nat.le_refl _)).below hb9 (Nat.le_refl _))
    have E := Lib.hid (((E.out).below (B := w8.heap.size) (by first | exact Below.refl _ _ | (go_grown; done) | exact bdrewN (by go_grown) _) (Nat.le_refl _)).below hb9 (Nat.le_refl _))
    have L := Lib.hid (((L.out).below (B := w8.heap.size) (by first | exact Below.refl _ _ | (go_grown; done) | exact bdrewN (by go_grown) _) (Nat.le_refl _)).below hb9 (Nat.le_refl _))
    have G := Lib.hid (((G.out).below (B := w8.heap.size) (by first | exact Below.refl _ _ | (go_grown; done) | exact bdrewN (by go_grown) _) (Nat.le_refl _)).below hb9 (Nat.le_refl _))
    obtain ⟨B9, hz9, q9, s9, t9, x9, y9, z9⟩ := bkeep (w := w3) [w3.heap.size, w3.heap.size + 1, w4.heap.size, w5.heap.size, w6.heap.size] (by first | (simp; done) | (simp; omega)) (by first | (go_grown; done) | exact bdrewN (by go_grown) _) hb9; (try simp at hz9); clear hb9
    go_wp2_with fail
    refine (likeInts_same _ _ _ _ _ _ (L.out.below (B := w9.heap.size) (by first | exact Below.refl _ _ | (go_grown; done) | exact bdrewN (by go_grown) _) (Nat.le_refl _)) (G.out.below (B := w9.heap.size) (by first | exact Below.refl _ _ | (go_grown; done) | exact bdrewN (by go_grown) _) (Nat.le_refl _))).mono ?_
    rintro e w10 ⟨rfl, hb10⟩
    have P := Lib.hid (((P.out).below (B := w9.heap.size) (by first | exact Below.refl _ _ | (go_grown; done) | exact bdrewN (by go_grown) _) (Nat.le_refl _)).below hb10 (Nat.le_refl _))
    have Q := Lib.hid (((Q.out).below (B := w9.heap.size) (by first | exact Below.refl _ _ | (go_grown; done) | exact bdrewN (by go_grown) _) (Nat.le_refl _)).below hb10 (Nat.le_refl _))
    have HX := Lib.hid (((HX.out).below (B := w9.heap.size) (by first | exact Below.refl _ _ | (go_grown; done) | exact bdrewN (by go_grown) _) (Nat.le_refl _)).below hb10 (Nat.le_refl _))
    have X := Lib.hid (((X.out).below (B := w9.heap.size) (by first | exact Below.refl _ _ | (go_grown; done) | exact bdrewN (by go_grown) _) (Nat.le_refl _)).below hb10 (Nat.le_refl _))
    have E := Lib.hid (((E.out).below (B := w9.heap.size) (by first | exact Below.refl _ _ | (go_grown; done) | exact bdrewN (by go_grown) _) (Nat.le_refl _)).below hb10 (Nat.le_refl _))
    have L := Lib.hid (((L.out).below (B := w9.heap.size) (by first | exact Below.refl _ _ | (go_grown; done) | exact bdrewN (by go_grown) _) (Nat.le_refl _)).below hb10 (Nat.le_refl _))
    have G := Lib.hid (((G.out).below (B := w9.heap.size) (by first | exact Below.refl _ _ | (go_grown; done) | exact bdrewN (by go_grown) _) (Nat.le_refl _)).below hb10 (Nat.le_refl _))
    obtain ⟨B10, hz10, q10, s10, t10, x10, y10, z10⟩ := bkeep (w := w3) [w3.heap.size, w3.heap.size + 1, w4.heap.size, w5.heap.size, w6.heap.size] (by first | (simp; done) | (simp; omega)) (by first | (go_grown; done) | exact bdrewN (by go_grown) _) hb10; (try simp at hz10); clear hb10
    go_upto_region 11 with fail
    refine genS (S := fun w' => Below w3.heap.size w3 w' ∧ w'.cell? ⟨w3.heap.size, 0, none⟩ = some (.slice A1 (List.length ts) c1) ∧ w'.cell? ⟨w3.heap.size, 1, none⟩ = some (.slice A2 (List.length ls) c2) ∧ w'.cell? ⟨w4.heap.size, 0, none⟩ = some (.slice D1 (jgT ts ls us ms).length d1) ∧ w'.cell? ⟨w4.heap.size, 1, none⟩ = some (.slice D2 (jgL ts ls us ms).length d2) ∧ w'.cell? ⟨w6.heap.size, 0, none⟩ = some (.slice E1 (List.length vs) e1) ∧ w'.cell? ⟨w6.heap.size, 1, none⟩ = some (.slice E2 (List.length ns) e2) ∧ ProfAt w' A1 c1 A2 c2 ts ls ∧ ProfAt w' D1 d1 D2 d2 (jgT ts ls us ms) (jgL ts ls us ms) ∧ BytesAt w' A c xs ∧ ProfAt w' E1 e1 E2 e2 vs ns ∧ IntsAt w' F2 f2 (hwL vs ns)) ⟨(by first | exact B10 | (go_grown; done)), by simp [*, go_sem], by simp [*, go_sem], by simp [*, go_sem], by simp [*, go_sem], by simp [*, go_sem], by simp [*, go_sem], (P.out).below (B := w10.heap.size) (by first | exact Below.refl _ _ | (go_grown; done) | exact bdrewN (by go_grown) _) (Nat.le_refl _), (X.out).below (B := w10.heap.size) (by first | exact Below.refl _ _ | (go_grown; done) | exact bdrewN (by go_grown) _) (Nat.le_refl _), (HX.out).below (B := w10.heap.size) (by first | exact Below.refl _ _ | (go_grown; done) | exact bdrewN (by go_grown) _) (Nat.le_refl _), (E.out).below (B := w10.heap.size) (by first | exact Below.refl _ _ | (go_grown; done) | exact bdrewN (by go_grown) _) (Nat.le_refl _), (G.out).below (B := w10.heap.size) (by first | exact Below.refl _ _ | (go_grown; done) | exact bdrewN (by go_grown) _) (Nat.le_refl _)⟩ ?_
    clear P Q HX X E G
    rintro w11 ⟨b11, k0, k1, k2, k3, k4, k5, p1, p2, p3, p4, p5⟩
    have B11 := Lib.hid b11; have P := Lib.hid p1; have X := Lib.hid p2; have HX := Lib.hid p3; have E := Lib.hid p4; have G := Lib.hid p5; clear b11 p1 p2 p3 p4 p5
    clear q4 s4 t4 x4 y4 z4 hz4 B4
    clear q5 s5 t5 x5 y5 z5 hz5 B5
    clear q6 s6 t6 x6 y6 z6 hz6 B6
    clear q7 s7 t7 x7 y7 z7 hz7 B7
    clear q8 s8 t8 x8 y8 z8 hz8 B8
    clear q9 s9 t9 x9 y9 z9 hz9 B9
    clear q10 s10 t10 x10 y10 z10 hz10 B10
    have hL40 := hwL_len vs ns
    go_wp2_with fail
    go_loopw [14] (fun i wr => ∃ k q : Nat, i = .int .i64 k ∧ k ≤ (hwL vs ns).length ∧ wr = w11.drewN q) (fun i _ => (hwL vs ns).length - (intOf i).toNat)
    case atStart => exact ⟨0, 0, rfl, by omega, rfl⟩
    case round =>
      obtain ⟨k, q, rfl, hk, rfl⟩ := hrel
      by_cases hlt : k < (hwL vs ns).length
      · obtain ⟨b, off, x, rfl, hb, hx, cx⟩ := G.out.at_ hlt
        have hgv : gauB vs ns = true := by
          cases hh : gauB vs ns with
          | true => rfl
          | false => rw [(hw_bad hh).1] at hlt; simp at hlt
        have hm := List.mem_of_getElem? hx
        rw [(hw_good hgv).1] at hm
        obtain ⟨j, hj, rfl, j1, j2⟩ := hw_mem hm
        have p := gauOk_of hgv
        have pl1 := p.l1; have pl2 := p.l2; have pl3 := p.l3; have pl4 := p.l4
        obtain ⟨b2, o2, rfl, hb2, q2⟩ := E.out.2.spd (by omega)
        have kk : ((j + 1 : Nat) : Int) = (j : Int) + 1 := by omega
        have kk2 : ((j + 2 : Nat) : Int) = (j : Int) + 1 + 1 := by omega
        have d0 := q2 j (by omega)
        have d1 := q2 (j + 1) (by omega)
        have d2 := q2 (j + 2) (by omega)
        rw [kk] at d1
        rw [kk2] at d2
        have i0 : (0 : Int) ≤ j := by omega
        have i1 : (j : Int) < ns.length := by omega
        have i2 : (0 : Int) ≤ (j : Int) + 1 := by omega
        have i3 : (j : Int) + 1 < ns.length := by omega
        have i4 : (0 : Int) ≤ (j : Int) + 1 + 1 := by omega
        have i5 : (j : Int) + 1 + 1 < ns.length := by omega
        have i6 : ((j : Int) + 1).toNat = j + 1 := by omega
        have i7 : ((j : Int) + 1 + 1).toNat = j + 2 := by omega
        have i8 : (j : Int) + 1 - 1 = j := by omega
        have i9 : (0 : Int) ≤ k := by omega
        have i10 : (k : Int) < (hwL vs ns).length := by omega
        have i12 : ns.length ≤ 40 := by omega
        have i11 : (hwL vs ns).length - (k + 1) < (hwL vs ns).length - k := by omega
        clear kk kk2 hm hx p pl1 pl2 pl3 pl4 q2 hgv
        obtain ⟨x0, hx0⟩ : ∃ x, spd ns j = x := ⟨_, rfl⟩
        obtain ⟨x1, hx1⟩ : ∃ x, spd ns ((j : Int) + 1) = x := ⟨_, rfl⟩
        obtain ⟨x2, hx2⟩ : ∃ x, spd ns ((j : Int) + 1 + 1) = x := ⟨_, rfl⟩
        rw [hx0] at d0 j1; rw [hx1] at d1 j1 j2; rw [hx2] at d2 j2
        clear hx0 hx1 hx2
        have e0 : decide ((j : Int) + 1 < 1) = false := decide_eq_false (by omega)
        have e1 : decide (x1 ≤ x0) = false := decide_eq_false (by omega)
        have e2 : decide (x1 < x2) = false := decide_eq_false (by omega)
        go_wp2_with fail
        have W0 : IntKind.i64.wrap ((j : Int) + 1 - 1) = (j : Int) := by rw [i8]; exact IntWalk.i64_in _ (by omega)
        have W1 : IntKind.i64.wrap ((j : Int) + 1 + 1) = (j : Int) + 1 + 1 := IntWalk.i64_in _ (by omega)
        go_quiet (fail)
        clear W0 W1
        go_wp2
        go_roundw
        case rel => exact ⟨k + 1, _, by go_num, by omega, by first | rfl | simp only [World.drewN_drewN]⟩
        case measure => simp [intOf]; omega
      · clear hL40 hk
        by_cases hc : jgC ts ls us ms = 0
        · have jg := jg_is hc
          have p := gauOk_of jg.g1
          have pl1 := p.l1; have pl2 := p.l2
          obtain ⟨b1, o1, rfl, hb1, qq1⟩ := P.out.1.spd (by omega)
          have z0 := qq1 0 (by omega)
          have z1 := qq1 (ts.length - 1) (by omega)
          rw [show ((0 : Nat) : Int) = 0 from rfl, Nat.add_zero] at z0
          rw [show ((ts.length - 1 : Nat) : Int) = (ts.length : Int) - 1 by omega] at z1
          have t0 := p.t 0 (by omega)
          have t1 := p.t (ts.length - 1) (by omega)
          rw [show ((0 : Nat) : Int) = 0 from rfl] at t0
          rw [show ((ts.length - 1 : Nat) : Int) = (ts.length : Int) - 1 by omega] at t1
          have t2 : spd ts 0 ≤ spd ts ((ts.length : Int) - 1) := by
            by_cases h1_ : ts.length = 1
            · rw [h1_]; exact Int.le_refl _
            · have := p.up 0 (ts.length - 1) (by omega) (by omega)
              rw [show ((ts.length - 1 : Nat) : Int) = (ts.length : Int) - 1 by omega, show ((0 : Nat) : Int) = 0 from rfl] at this
              omega
          have LV := Lib.hid (fun x => jg_level jg (x := x)); have GJ := Lib.hid (jg_gau jg); have EJ := Lib.hid (And.intro jg.eT jg.eL); clear jg p qq1
          obtain ⟨y0, hy0⟩ : ∃ x, spd ts 0 = x := ⟨_, rfl⟩
          obtain ⟨y1, hy1⟩ : ∃ x, spd ts ((ts.length : Int) - 1) = x := ⟨_, rfl⟩
          rw [hy0] at z0 t0 t2; rw [hy1] at z1 t1 t2
          have HY0 := Lib.hid hy0; have HY1 := Lib.hid hy1; clear hy0 hy1
          have m1 : (0 : Int) ≤ (ts.length : Int) - 1 := by omega
          have m2 : ((ts.length : Int) - 1).toNat = ts.length - 1 := by omega
          have m3 : (ts.length : Int) - 1 < ts.length := by omega
          have m4 : (1 : Int) ≤ ts.length := by omega
          have m5 : (0 : Int) < ts.length := by omega
          go_wp2_with fail
          have W0 : IntKind.i64.wrap ((ts.length : Int) - 1) = (ts.length : Int) - 1 := IntWalk.i64_in _ (by omega)
          go_quiet (fail)
          clear W0
          refine genS (S := fun w' => Below w3.heap.size w3 w' ∧ w'.cell? ⟨w3.heap.size, 0, none⟩ = some (.slice (some ⟨b1, o1, none⟩) (List.length ts) c1) ∧ w'.cell? ⟨w3.heap.size, 1, none⟩ = some (.slice A2 (List.length ls) c2) ∧ w'.cell? ⟨w4.heap.size, 0, none⟩ = some (.slice D1 (jgT ts ls us ms).length d1) ∧ w'.cell? ⟨w4.heap.size, 1, none⟩ = some (.slice D2 (jgL ts ls us ms).length d2) ∧ ProfAt w' (some ⟨b1, o1, none⟩) c1 A2 c2 ts ls ∧ ProfAt w' D1 d1 D2 d2 (jgT ts ls us ms) (jgL ts ls us ms) ∧ BytesAt w' A c xs) ⟨bdrewN (bdrewN B11.out _) _, by simp [*, go_sem], by simp [*, go_sem], by simp [*, go_sem], by simp [*, go_sem], (P.out).below (bdrewN (bdrewN (Below.refl w11.heap.size _) _) _) (Nat.le_refl _), (X.out).below (bdrewN (bdrewN (Below.refl w11.heap.size _) _) _) (Nat.le_refl _), (HX.out).below (bdrewN (bdrewN (Below.refl w11.heap.size _) _) _) (Nat.le_refl _)⟩ ?_
          clear k0 k1 k2 k3 k4 k5 P X HX E G B11 z0 z1
          rintro w12 ⟨b12, k0, k1, k2, k3, p1, p2, p3⟩
          have B12 := Lib.hid b12; have P := Lib.hid p1; have X := Lib.hid p2; have HX := Lib.hid p3; clear b12 p1 p2 p3
          have lw3 : w3.heap.size < w12.heap.size := World.block_lt_of_cell? _ _ k0
          have lw4 : w4.heap.size < w12.heap.size := World.block_lt_of_cell? _ _ k2
          go_wp2_with fail
          refine (roll_any A c xs _ _ (HX.out.below (B := w12.heap.size) (by first | exact Below.refl _ _ | (go_grown; done) | exact bdrewN (by go_grown) _) (Nat.le_refl _))).mono ?_
          rintro e w13 ⟨D, rfl, hD, dd, hb13⟩
          have DD := Lib.hid dd; have B12 := B12.out; clear dd
          go_wp2_with fail
          refine (below_any D A c xs _ _ DD.out (by omega) (by omega)).mono ?_
          rintro e w14 ⟨⟨r, rfl, r0_, r1_⟩, -, ch14⟩
          have hb14 : Below w12.heap.size w12 w14 := hb13.trans (ch14.below hD)
          have P := Lib.hid (P.out.below hb14 (Nat.le_refl _)); have X := Lib.hid (X.out.below hb14 (Nat.le_refl _))
          have W0 : IntKind.i64.wrap (y0 + r) = y0 + r := IntWalk.i64_in _ (by omega)
          obtain ⟨u0, u1, u2_, u3⟩ := LV.out (y0 + r) (by rw [HY0.out]; omega) (by rw [HY1.out]; omega)
          have GJ := GJ.out
          rw [← EJ.out.1, ← EJ.out.2] at u1 u2_ u3 GJ
          obtain ⟨B14, hz14, q14, s14, t14, x14, y14, z14⟩ := bkeep (w := w3) [w3.heap.size, w4.heap.size] (by first | (simp; done) | (simp; omega)) (by first | (go_grown; done) | exact bdrewN (by go_grown) _) hb14; (try simp at hz14); clear hb14
          clear hb13 ch14 DD LV EJ HY0 HY1 HX
          have U0 := Lib.hid u0; have U1 := Lib.hid u1; have U2 := Lib.hid u2_; have U3 := Lib.hid u3; clear u0 u1 u2_ u3
          go_wp2_with fail
          refine (implLevelAt_any _ _ _ _ _ _ _ _ (P.out.below (B := w14.heap.size) (by first | exact Below.refl _ _ | (go_grown; done) | exact bdrewN (by go_grown) _) (Nat.le_refl _))).mono ?_
          rintro e w15 ⟨rfl, hb15⟩
          have P := Lib.hid (((P.out).below (B := w14.heap.size) (by first | exact Below.refl _ _ | (go_grown; done) | exact bdrewN (by go_grown) _) (Nat.le_refl _)).below hb15 (Nat.le_refl _))
          have X := Lib.hid (((X.out).below (B := w14.heap.size) (by first | exact Below.refl _ _ | (go_grown; done) | exact bdrewN (by go_grown) _) (Nat.le_refl _)).below hb15 (Nat.le_refl _))
          obtain ⟨B15, hz15, q15, s15, t15, x15, y15, z15⟩ := bkeep (w := w3) [w3.heap.size, w4.heap.size] (by first | (simp; done) | (simp; omega)) (by first | (go_grown; done) | exact bdrewN (by go_grown) _) hb15; (try simp at hz15); clear hb15
          go_wp2_with fail
          refine (implLevelAt_any _ _ _ _ _ _ _ _ (X.out.below (B := w15.heap.size) (by first | exact Below.refl _ _ | (go_grown; done) | exact bdrewN (by go_grown) _) (Nat.le_refl _))).mono ?_
          rintro e w16 ⟨rfl, hb16⟩
          have P := Lib.hid (((P.out).below (B := w15.heap.size) (by first | exact Below.refl _ _ | (go_grown; done) | exact bdrewN (by go_grown) _) (Nat.le_refl _)).below hb16 (Nat.le_refl _))
          have X := Lib.hid (((X.out).below (B := w15.heap.size) (by first | exact Below.refl _ _ | (go_grown; done) | exact bdrewN (by go_grown) _) (Nat.le_refl _)).below hb16 (Nat.le_refl _))
          obtain ⟨B16, hz16, q16, s16, t16, x16, y16, z16⟩ := bkeep (w := w3) [w3.heap.size, w4.heap.size, w15.heap.size] (by first | (simp; done) | (simp; omega)) (by first | (go_grown; done) | exact bdrewN (by go_grown) _) hb16; (try simp at hz16); clear hb16
          have u0 := U0.out; have u1 := U1.out; have u2_ := U2.out; have u3 := U3.out
          go_wp2_with fail
          refine (implIsGauge_any _ _ _ _ _ _ _ (X.out.below (B := w16.heap.size) (by first | exact Below.refl _ _ | (go_grown; done) | exact bdrewN (by go_grown) _) (Nat.le_refl _))).mono ?_
          rintro e w17 ⟨rfl, hb17⟩
          have P := Lib.hid (((P.out).below (B := w16.heap.size) (by first | exact Below.refl _ _ | (go_grown; done) | exact bdrewN (by go_grown) _) (Nat.le_refl _)).below hb17 (Nat.le_refl _))
          have X := Lib.hid (((X.out).below (B := w16.heap.size) (by first | exact Below.refl _ _ | (go_grown; done) | exact bdrewN (by go_grown) _) (Nat.le_refl _)).below hb17 (Nat.le_refl _))
          obtain ⟨B17, hz17, q17, s17, t17, x17, y17, z17⟩ := bkeep (w := w3) [w3.heap.size, w4.heap.size, w15.heap.size, w16.heap.size] (by first | (simp; done) | (simp; omega)) (by first | (go_grown; done) | exact bdrewN (by go_grown) _) hb17; (try simp at hz17); clear hb17
          go_wp2_with fail
          go_ret
          exact ⟨ret_bool (by simp [GJ]), B3.out.trans (Below.mono (show Below w3.heap.size w3 _ by first | exact B17 | (go_grown; done) | exact bdrewN B17 _ | (go_grown <;> exact bdrewN B17 _)) B3.out.size)⟩
        · have hc2 : (jgC ts ls us ms != 0) = true := by simpa using hc
          go_wp2
          go_ret
          exact ⟨rfl, B3.out.trans ((bdrewN B11.out _).mono B3.out.size)⟩
end Go.Proofs.Ytjabldjffpjkeaa
