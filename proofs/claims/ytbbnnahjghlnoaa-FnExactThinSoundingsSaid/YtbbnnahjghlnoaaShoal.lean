/- The shoalest sounding. -/
import Derived.Test.YtbbnnahjghlnoaaSnd2
namespace Go.Proofs.Ytbbnnahjghlnoaa
set_option linter.unusedSimpArgs false
set_option linter.unusedVariables false
open Go.RowKit

def lowAt (xs : List Snd) (k : Nat) : Int := match xs[k]? with | some s => s.d - s.e | none => 0
/-- the least index of a least lower bound among the first k -/
def shAt (xs : List Snd) : Nat → Nat
  | 0 => 0
  | k + 1 => if lowAt xs k < lowAt xs (shAt xs k) then k else shAt xs k

theorem shAt_lt (xs : List Snd) : ∀ k, k ≤ xs.length → 0 < xs.length → shAt xs k < xs.length := by
  intro k
  induction k with
  | zero => intro _ h; exact h
  | succ k ih =>
    intro h h0
    unfold shAt
    split
    · omega
    · exact ih (by omega) h0
theorem shAt_one (xs : List Snd) : shAt xs 1 = 0 := by
  unfold shAt shAt
  rw [if_neg (by omega)]
theorem lowAt_of {xs : List Snd} {k : Nat} {x y d e : Int} (h : xs[k]? = some ⟨x, y, d, e⟩) : lowAt xs k = d - e := by
  unfold lowAt; rw [h]
theorem snd_bd {xs : List Snd} {k : Nat} {x y d e : Int} (hv : sndsB xs = true) (h : xs[k]? = some ⟨x, y, d, e⟩) : -2000 ≤ d ∧ d ≤ 1000000 ∧ 0 ≤ e ∧ e ≤ 5000 := by
  have h1 : xs.all sndP = true := by simp [sndsB] at hv; simpa using hv.1
  have h2 := List.all_eq_true.1 h1 _ (List.mem_of_getElem? h)
  exact sndB_bd (a := x) (b := y) h2

def shoalI (xs : List Snd) : Int := if sndsB xs && !xs.isEmpty then (shAt xs xs.length : Nat) else 0
def shoalE (xs : List Snd) : Int := if sndsB xs then (if xs.isEmpty then 4 else 0) else 1

set_option maxHeartbeats 1000000 in
theorem specShoalestOf_any (A : Option Addr) (c : Nat) (xs : List Snd) (w : World) (hx : SndsAt w A c xs) :
    Calls Try.prog 22 #[.slice A xs.length c] w fun e w' => e = .returned (.tuple #[.int .i64 (shoalI xs), .int .i64 (shoalE xs)]) ∧ Below w.heap.size w w' := by
  have hn := Nat.le_trans hx.1 hx.2.1
  have HX := Lib.hid hx; clear hx
  by_cases hv : sndsB xs = true
  · by_cases h0 : xs.length = 0
    · have hnil : xs = [] := List.eq_nil_of_length_eq_zero h0
      subst hnil
      clear h0
      go_enter Try.func22, Try.ntmps22
      go_wp2_with fail
      (refine (specAreSoundings_any _ _ [] _ HX.out).mono ?_; rintro e w1 ⟨rfl, hb1⟩; obtain ⟨B1, hz1, q1, s1, t1, x1, y1, z1⟩ := bkeep (w := w) [] (by first | (simp; done) | (simp; omega)) (by first | (go_grown; done) | exact bdrewN (by go_grown) _) hb1; (try simp at hz1); clear hb1)
      go_wp2
      go_ret2
      exact ⟨by simp [shoalI, shoalE, hv], B1⟩
    · have hb0 : ((xs.length : Int) == 0) = false := beq_eq_false_iff_ne.2 (by omega)
      have hb1 : xs.isEmpty = false := by cases xs <;> simp_all
      have HB := Lib.hid hb1
      have HV := Lib.hid hv
      have h00 : 0 < xs.length := by omega
      clear hb1 h0
      go_enter Try.func22, Try.ntmps22
      go_wp2_with fail
      (refine (specAreSoundings_any _ _ _ _ HX.out).mono ?_; rintro e w1 ⟨rfl, hb1⟩; obtain ⟨B1, hz1, q1, s1, t1, x1, y1, z1⟩ := bkeep (w := w) [] (by first | (simp; done) | (simp; omega)) (by first | (go_grown; done) | exact bdrewN (by go_grown) _) hb1; (try simp at hz1); clear hb1)
      go_wp2
      go_loopw [4, 5] (fun b i wr => Below w.heap.size w wr ∧ ∃ k : Nat, 1 ≤ k ∧ k ≤ xs.length ∧ i = .int .i64 k ∧ b = .int .i64 (shAt xs k : Nat)) (fun _ i _ => xs.length - (intOf i).toNat)
      case atStart => exact ⟨B1, 1, by omega, by omega, rfl, by rw [shAt_one]; rfl⟩
      case round =>
        obtain ⟨Br, k, hk1, hk, rfl, rfl⟩ := hrel
        have tr := bold Br
        have zr := bnew Br; have sr := Br.size
        by_cases hlt : k < xs.length
        · have hsl := shAt_lt xs k hk h00
          obtain ⟨b, off, x, y, d, e, rfl, hb, hxk, c0, c1, c2, c3⟩ := HX.out.at_ hlt
          obtain ⟨b', off', x', y', d', e', hA, hb', hxk', c0', c1', c2', c3'⟩ := HX.out.at_ hsl
          simp only [Option.some.injEq, Addr.mk.injEq, and_true] at hA
          obtain ⟨rfl, rfl⟩ := hA
          obtain ⟨e1, e2, e3, e4⟩ := snd_bd HV.out hxk
          obtain ⟨f1, f2, f3, f4⟩ := snd_bd HV.out hxk'
          have L := lowAt_of hxk
          have L' := lowAt_of hxk'
          have hstep : shAt xs (k + 1) = if d - e < d' - e' then k else shAt xs k := by rw [shAt, L, L']
          have HS := Lib.hid hstep
          generalize shAt xs k = m at *
          clear hxk hxk' L L' hstep
          have hk0 : (0 : Int) ≤ (k : Int) := Int.natCast_nonneg _
          have hk1 : (k : Int) < (xs.length : Int) := by omega
          have hm0 : (0 : Int) ≤ (m : Int) := Int.natCast_nonneg _
          have hm1 : (m : Int) < (xs.length : Int) := by omega
          by_cases hlow : d - e < d' - e'
          all_goals
            go_wp2_with fail
            go_region_held3 (fun w' => (w'.cell? ⟨b, off + k * 4, none⟩ = some (.int .i64 x) ∧ w'.cell? ⟨b, off + k * 4 + 1, none⟩ = some (.int .i64 y) ∧ w'.cell? ⟨b, off + k * 4 + 2, none⟩ = some (.int .i64 d) ∧ w'.cell? ⟨b, off + k * 4 + 3, none⟩ = some (.int .i64 e)) ∧
              (w'.cell? ⟨b, off + m * 4, none⟩ = some (.int .i64 x') ∧ w'.cell? ⟨b, off + m * 4 + 1, none⟩ = some (.int .i64 y') ∧ w'.cell? ⟨b, off + m * 4 + 2, none⟩ = some (.int .i64 d') ∧ w'.cell? ⟨b, off + m * 4 + 3, none⟩ = some (.int .i64 e'))) (go_keep)
              ((go_at_call 34; refine (l21Bounds_any _ _ _ _ _ (by omega) (by omega) (by omega) (by omega)).mono ?_; rintro e w2 ⟨rfl, hb2⟩; obtain ⟨B2, hz2, q2, s2, t2, x2, y2, z2⟩ := bkeep (w := w) [] (by first | (simp; done) | (simp; omega)) (by first | (go_grown; done) | exact bdrewN (by go_grown) _) hb2; (try simp at hz2); clear hb2))
            go_wp2
            go_roundw
            case rel => exact ⟨by go_grown, k + 1, by omega, by omega, by go_num, by first | rw [HS.out, if_pos (by omega)] | rw [HS.out, if_neg (by omega)]⟩
            case measure => simp [intOf]; omega
        · have hkn : k = xs.length := by omega
          have HK := Lib.hid hkn; clear hkn
          go_wp2
          go_ret2
          exact ⟨by simp [shoalI, shoalE, HV.out, HB.out, HK.out], Br⟩
  · go_enter Try.func22, Try.ntmps22
    go_wp2_with fail
    (refine (specAreSoundings_any _ _ _ _ HX.out).mono ?_; rintro e w1 ⟨rfl, hb1⟩; obtain ⟨B1, hz1, q1, s1, t1, x1, y1, z1⟩ := bkeep (w := w) [] (by first | (simp; done) | (simp; omega)) (by first | (go_grown; done) | exact bdrewN (by go_grown) _) hb1; (try simp at hz1); clear hb1)
    go_wp2
    go_ret2
    exact ⟨by simp [shoalI, shoalE, hv], B1⟩

set_option maxHeartbeats 1000000 in
theorem implShoalestOf_any (A : Option Addr) (c : Nat) (xs : List Snd) (w : World) (hx : SndsAt w A c xs) :
    Calls Try.prog 21 #[.slice A xs.length c] w fun e w' => e = .returned (.tuple #[.int .i64 (shoalI xs), .int .i64 (shoalE xs)]) ∧ Below w.heap.size w w' := by
  have hn := Nat.le_trans hx.1 hx.2.1
  have HX := Lib.hid hx; clear hx
  by_cases hv : sndsB xs = true
  · by_cases h0 : xs.length = 0
    · have hnil : xs = [] := List.eq_nil_of_length_eq_zero h0
      subst hnil
      clear h0
      go_enter Try.func21, Try.ntmps21
      go_wp2_with fail
      (refine (implAreSoundings_any _ _ [] _ HX.out).mono ?_; rintro e w1 ⟨rfl, hb1⟩; obtain ⟨B1, hz1, q1, s1, t1, x1, y1, z1⟩ := bkeep (w := w) [] (by first | (simp; done) | (simp; omega)) (by first | (go_grown; done) | exact bdrewN (by go_grown) _) hb1; (try simp at hz1); clear hb1)
      go_wp2
      go_ret2
      exact ⟨by simp [shoalI, shoalE, hv], B1⟩
    · have hb0 : ((xs.length : Int) == 0) = false := beq_eq_false_iff_ne.2 (by omega)
      have hb1 : xs.isEmpty = false := by cases xs <;> simp_all
      have HB := Lib.hid hb1
      have HV := Lib.hid hv
      have h00 : 0 < xs.length := by omega
      clear hb1 h0
      go_enter Try.func21, Try.ntmps21
      go_wp2_with fail
      (refine (implAreSoundings_any _ _ _ _ HX.out).mono ?_; rintro e w1 ⟨rfl, hb1⟩; obtain ⟨B1, hz1, q1, s1, t1, x1, y1, z1⟩ := bkeep (w := w) [] (by first | (simp; done) | (simp; omega)) (by first | (go_grown; done) | exact bdrewN (by go_grown) _) hb1; (try simp at hz1); clear hb1)
      go_wp2
      go_loopw [4, 17] (fun b i wr => Below w.heap.size w wr ∧ ∃ k : Nat, k ≤ xs.length ∧ i = .int .i64 k ∧ b = .int .i64 (shAt xs k : Nat)) (fun _ i _ => xs.length - (intOf i).toNat)
      case atStart => exact ⟨B1, 0, by omega, rfl, rfl⟩
      case round =>
        obtain ⟨Br, k, hk, rfl, rfl⟩ := hrel
        have tr := bold Br
        have zr := bnew Br; have sr := Br.size
        by_cases hlt : k < xs.length
        · have hsl := shAt_lt xs k hk h00
          obtain ⟨b, off, x, y, d, e, rfl, hb, hxk, c0, c1, c2, c3⟩ := HX.out.at_ hlt
          obtain ⟨b', off', x', y', d', e', hA, hb', hxk', c0', c1', c2', c3'⟩ := HX.out.at_ hsl
          simp only [Option.some.injEq, Addr.mk.injEq, and_true] at hA
          obtain ⟨rfl, rfl⟩ := hA
          obtain ⟨e1, e2, e3, e4⟩ := snd_bd HV.out hxk
          obtain ⟨f1, f2, f3, f4⟩ := snd_bd HV.out hxk'
          have L := lowAt_of hxk
          have L' := lowAt_of hxk'
          have hstep : shAt xs (k + 1) = if d - e < d' - e' then k else shAt xs k := by rw [shAt, L, L']
          have HS := Lib.hid hstep
          generalize shAt xs k = m at *
          clear hxk hxk' L L' hstep
          have hk0 : (0 : Int) ≤ (k : Int) := Int.natCast_nonneg _
          have hk1 : (k : Int) < (xs.length : Int) := by omega
          have hm0 : (0 : Int) ≤ (m : Int) := Int.natCast_nonneg _
          have hm1 : (m : Int) < (xs.length : Int) := by omega
          by_cases hlow : d - e < d' - e'
          all_goals
            go_wp2_with fail
            go_region_held3 (fun w' => (w'.cell? ⟨wr.heap.size, 0, none⟩ = some (.int .i64 x) ∧ w'.cell? ⟨wr.heap.size, 1, none⟩ = some (.int .i64 y) ∧ w'.cell? ⟨wr.heap.size, 2, none⟩ = some (.int .i64 d) ∧ w'.cell? ⟨wr.heap.size, 3, none⟩ = some (.int .i64 e)) ∧
              (w'.cell? ⟨b, off + m * 4, none⟩ = some (.int .i64 x') ∧ w'.cell? ⟨b, off + m * 4 + 1, none⟩ = some (.int .i64 y') ∧ w'.cell? ⟨b, off + m * 4 + 2, none⟩ = some (.int .i64 d') ∧ w'.cell? ⟨b, off + m * 4 + 3, none⟩ = some (.int .i64 e'))) (go_keep)
              ((go_at_call 38; refine (bounds_any _ _ _ _ _ (by omega) (by omega) (by omega) (by omega)).mono ?_; rintro e w2 ⟨rfl, hb2⟩; obtain ⟨B2, hz2, q2, s2, t2, x2, y2, z2⟩ := bkeep (w := w) [wr.heap.size] (by first | (simp; done) | (simp; omega)) (by first | (go_grown; done) | exact bdrewN (by go_grown) _) hb2; (try simp at hz2); clear hb2))
            go_wp2
            go_roundw
            case rel => exact ⟨by go_grown, k + 1, by omega, by go_num, by first | rw [HS.out, if_pos (by omega)] | rw [HS.out, if_neg (by omega)]⟩
            case measure => simp [intOf]; omega
        · have hkn : k = xs.length := by omega
          have HK := Lib.hid hkn; clear hkn
          go_wp2
          go_ret2
          exact ⟨by simp [shoalI, shoalE, HV.out, HB.out, HK.out], Br⟩
  · go_enter Try.func21, Try.ntmps21
    go_wp2_with fail
    (refine (implAreSoundings_any _ _ _ _ HX.out).mono ?_; rintro e w1 ⟨rfl, hb1⟩; obtain ⟨B1, hz1, q1, s1, t1, x1, y1, z1⟩ := bkeep (w := w) [] (by first | (simp; done) | (simp; omega)) (by first | (go_grown; done) | exact bdrewN (by go_grown) _) hb1; (try simp at hz1); clear hb1)
    go_wp2
    go_ret2
    exact ⟨by simp [shoalI, shoalE, hv], B1⟩

end Go.Proofs.Ytbbnnahjghlnoaa
