/- Knots: the codes; the greatest speed of the knots up to a knot. -/
import Derived.Test.YtmgmhaikehjddaaProf2
import Derived.Deep.RegionHeld3
namespace Go.Proofs.Ytmgmhaikehjddaa
set_option linter.unusedSimpArgs false
set_option linter.unusedVariables false
open Go.RowKit

@[go_sem] theorem mkFunc (fn : Fn) (first cap : Array Value) (w : World) : (Instr.makeFunc fn first cap).run Try.prog w = .ok (.func fn first cap) w := rfl

/-- the code of a profile and an index below n - less -/
def knotE (ds ss : List Int) (k less : Int) : Int := if profB ds ss then (if inB k 0 ((ds.length : Int) - 1 - less) then 0 else 2) else 1

set_option maxHeartbeats 400000 in
theorem last_any (A1 A2 : Option Addr) (c1 c2 n1 n2 : Nat) (w : World) (hn : n1 ≤ 9223372036854775807) :
    Calls Try.prog 172 #[profV A1 n1 c1 A2 n2 c2] w fun e w' => e = .returned (.int .i64 ((n1 : Int) - 1)) ∧ Below w.heap.size w w' := by
  go_enter Try.func172, Try.ntmps172
  go_wp2_with (go_at_call 176; refine (length_any _ _ _ _ hn).mono ?_; rintro e w' ⟨rfl, rfl⟩)
  go_ret
  exact ⟨rfl, by go_grown⟩

set_option maxHeartbeats 400000 in
theorem isKnot_any (A1 A2 : Option Addr) (c1 c2 n1 n2 : Nat) (k : Int) (w : World) (hn : n1 ≤ 9223372036854775807) :
    Calls Try.prog 186 #[profV A1 n1 c1 A2 n2 c2, .int .i64 k] w fun e w' => e = .returned (.bool (inB k 0 ((n1 : Int) - 1))) ∧ Below w.heap.size w w' := by
  go_enter Try.func186, Try.ntmps186
  go_wp2_with (first
    | (go_at_call 172; refine (last_any _ _ _ _ _ _ _ hn).mono ?_; rintro e w1 ⟨rfl, hb1⟩; obtain ⟨B1, hz1, q1, s1, t1, x1, y1, z1⟩ := bkeep (w := w) [w.heap.size] (by first | (simp; done) | (simp; omega)) (by first | (go_grown; done) | exact bdrewN (by go_grown) _) hb1; (try simp at hz1); clear hb1)
    | (go_at_call 171; refine (within_any _ _ _ _).mono ?_; rintro e w' ⟨rfl, rfl⟩))
  go_ret
  exact ⟨rfl, B1⟩

set_option maxHeartbeats 400000 in
theorem knotClosure_any (A1 A2 : Option Addr) (c1 c2 n1 n2 : Nat) (b o : Nat) (k : Int) (w : World) (hn : n1 ≤ 9223372036854775807) (hb : b < w.heap.size) (hc : w.cell? ⟨b, o, none⟩ = some (.int .i64 k)) :
    Calls Try.prog 185 #[profV A1 n1 c1 A2 n2 c2, .pointer (some ⟨b, o, none⟩)] w fun e w' => e = .returned (.bool (inB k 0 ((n1 : Int) - 1))) ∧ Below w.heap.size w w' := by
  go_enter Try.func185, Try.ntmps185
  go_wp2_with (go_at_call 186; refine (isKnot_any _ _ _ _ _ _ _ _ hn).mono ?_; rintro e w1 ⟨rfl, hb1⟩; obtain ⟨B1, hz1, q1, s1, t1, x1, y1, z1⟩ := bkeep (w := w) [w.heap.size] (by first | (simp; done) | (simp; omega)) (by first | (go_grown; done) | exact bdrewN (by go_grown) _) hb1; (try simp at hz1); clear hb1)
  go_ret
  exact ⟨rfl, B1⟩

set_option maxHeartbeats 1000000 in
theorem knotCode_any (A1 A2 : Option Addr) (c1 c2 : Nat) (ds ss : List Int) (k : Int) (w : World) (h : ProfAt w A1 c1 A2 c2 ds ss) :
    Calls Try.prog 107 #[profV A1 ds.length c1 A2 ss.length c2, .int .i64 k] w fun e w' => e = .returned (.int .i64 (knotE ds ss k 0)) ∧ Below w.heap.size w w' := by
  have hn := Nat.le_trans h.1.1 h.1.2.1
  have H := Lib.hid h; clear h
  go_enter Try.func107, Try.ntmps107
  go_wp2_with (first
    | (go_at_call 96; refine (implIsProfile_any _ _ _ _ _ _ _ (H.out.1.below (B := w.heap.size) (by go_grown) (Nat.le_refl _)) (H.out.2.below (B := w.heap.size) (by go_grown) (Nat.le_refl _))).mono ?_; rintro e w1 ⟨rfl, hb1⟩; obtain ⟨B1, hz1, q1, s1, t1, x1, y1, z1⟩ := bkeep (w := w) [w.heap.size, w.heap.size + 1, w.heap.size + 2] (by first | (simp; done) | (simp; omega)) (by first | (go_grown; done) | exact bdrewN (by go_grown) _) hb1; (try simp at hz1); clear hb1)
    | (go_at_call 185; refine (knotClosure_any _ _ _ _ _ _ _ _ k _ hn (by simp [*, go_sem]) (by simp [*, go_sem])).mono ?_; rintro e w2 ⟨rfl, hb2⟩; obtain ⟨B2, hz2, q2, s2, t2, x2, y2, z2⟩ := bkeep (w := w) [w.heap.size, w.heap.size + 1, w.heap.size + 2] (by first | (simp; done) | (simp; omega)) (by first | (go_grown; done) | exact bdrewN (by go_grown) _) hb2; (try simp at hz2); clear hb2)
    | go_in)
  all_goals go_ret
  all_goals exact ⟨ret_int (by simp_all [knotE]), by first | exact B2 | exact B1⟩

set_option maxHeartbeats 1000000 in
theorem l04Knot_any (A1 A2 : Option Addr) (c1 c2 : Nat) (ds ss : List Int) (k less : Int) (w : World) (h : ProfAt w A1 c1 A2 c2 ds ss) (h0 : 0 ≤ less) (h1 : less ≤ 1) :
    Calls Try.prog 105 #[profV A1 ds.length c1 A2 ss.length c2, .int .i64 k, .int .i64 less] w fun e w' => e = .returned (.int .i64 (knotE ds ss k less)) ∧ Below w.heap.size w w' := by
  have hn := Nat.le_trans h.1.1 h.1.2.1
  have H := Lib.hid h; clear h
  go_enter Try.func105, Try.ntmps105
  go_wp2_with (first
    | (go_at_call 99; refine (specIsProfile_any _ _ _ _ _ _ _ (H.out.1.below (B := w.heap.size) (by go_grown) (Nat.le_refl _)) (H.out.2.below (B := w.heap.size) (by go_grown) (Nat.le_refl _))).mono ?_; rintro e w1 ⟨rfl, hb1⟩; obtain ⟨B1, hz1, q1, s1, t1, x1, y1, z1⟩ := bkeep (w := w) [w.heap.size] (by first | (simp; done) | (simp; omega)) (by first | (go_grown; done) | exact bdrewN (by go_grown) _) hb1; (try simp at hz1); clear hb1)
    | (go_at_call 173; refine (l01In_any _ _ _ _).mono ?_; rintro e w' ⟨rfl, rfl⟩))
  all_goals go_ret
  all_goals exact ⟨ret_int (by simp_all [knotE]), B1⟩

theorem prof_len {ds ss : List Int} (h : profB ds ss = true) : 2 ≤ ds.length ∧ ds.length ≤ 12 ∧ ss.length ≤ ds.length ∧ ds.length ≤ ss.length := by
  simp [profB] at h; omega
theorem prof_speed {ds ss : List Int} (h : profB ds ss = true) {i : Nat} {x : Int} (hx : ss[i]? = some x) : 1300000 ≤ x ∧ x ≤ 1700000 := by
  simp only [profB, Bool.and_eq_true] at h
  exact inB_bd (List.all_eq_true.1 h.2 _ (List.mem_of_getElem? hx))
theorem prof_ris {ds ss : List Int} (h : profB ds ss = true) : risB ds 1000001 = true := by
  simp only [profB, Bool.and_eq_true] at h
  exact h.1.1.2
theorem prof_zero {ds ss : List Int} (h : profB ds ss = true) : ds[0]? = some 0 := by
  simp only [profB, Bool.and_eq_true] at h
  simpa using h.1.2

/-- the greatest of 0 and the first k numbers -/
def mxTo (xs : List Int) : Nat → Int
  | 0 => 0
  | k + 1 => if mxTo xs k < xs[k]?.getD 0 then xs[k]?.getD 0 else mxTo xs k
theorem mxTo_succ {xs : List Int} {k : Nat} {x : Int} (h : xs[k]? = some x) : mxTo xs (k + 1) = if mxTo xs k < x then x else mxTo xs k := by rw [mxTo, h]; rfl
theorem mxTo_take (xs : List Int) (n : Nat) : ∀ k, k ≤ n → mxTo (xs.take n) k = mxTo xs k := by
  intro k
  induction k with
  | zero => intro _; rfl
  | succ k ih =>
    intro h
    have e : (xs.take n)[k]? = xs[k]? := by rw [List.getElem?_take, if_pos (by omega)]
    rw [mxTo, mxTo, ih (by omega), e]
theorem IntsAt.take {w : World} {A : Option Addr} {c : Nat} {xs : List Int} (h : IntsAt w A c xs) (n : Nat) : IntsAt w A c (xs.take n) := by
  refine ⟨by rw [List.length_take]; have := h.1; omega, h.2.1, ?_⟩
  rcases h.2.2 with rfl | ⟨b, off, e, hb, hc⟩
  · exact .inl (by simp)
  · refine .inr ⟨b, off, e, hb, fun i x hx => hc i x ?_⟩
    rw [List.getElem?_take] at hx
    split at hx
    · exact hx
    · cases hx

set_option maxHeartbeats 1000000 in
theorem slicesMax_any (A : Option Addr) (c n : Nat) (xs : List Int) (w : World) (M : Int) (hx : IntsAt w A c xs) (hl : n = xs.length) (h0 : 0 < n) (hp : ∀ x ∈ xs, 0 < x) (hM : mxTo xs xs.length = M) :
    Calls Try.prog 108 #[.slice A n c] w fun e w' => e = .returned (.int .i64 M) ∧ w = w' := by
  subst hl hM
  have hn := Nat.le_trans hx.1 hx.2.1
  obtain ⟨b, off, x, rfl, hb, hx0, hc⟩ := at_zero hx h0
  have hx1 := hp x (List.mem_of_getElem? hx0)
  have HS : Hid (mxTo xs 1 = x) := by
    show mxTo xs 1 = x
    rw [mxTo_succ hx0]; exact if_pos hx1
  have HX := Lib.hid hx; have HP := Lib.hid hp; clear hx hp hx0
  have hl1 : ¬ (xs.length : Int) < 1 := by omega
  go_enter Try.func108, Try.ntmps108
  go_wp2
  go_loop [3, 4] (fun m i => ∃ k : Nat, 1 ≤ k ∧ k ≤ xs.length ∧ i = .int .i64 k ∧ m = .int .i64 (mxTo xs k)) (fun _ i => xs.length - (intOf i).toNat)
  case atStart => exact ⟨1, by omega, by omega, rfl, vint HS.out.symm⟩
  case round =>
    obtain ⟨k, hk1, hk, rfl, rfl⟩ := hrel
    by_cases hlt : k < xs.length
    · obtain ⟨b', off', y, hA, hb', hxk, hc'⟩ := HX.out.at_ hlt
      simp only [Option.some.injEq, Addr.mk.injEq, and_true] at hA
      obtain ⟨rfl, rfl⟩ := hA
      have HK := Lib.hid (mxTo_succ hxk); clear hxk
      go_wp2
      go_round
      case rel => exact ⟨k + 1, by omega, by omega, by go_num, vint HK.out.symm⟩
      case measure => simp [intOf]; omega
    · obtain rfl : k = xs.length := by omega
      go_wp2
      go_ret
      exact ⟨rfl, rfl⟩

def fastI (ds ss : List Int) (k : Int) : Int := if knotE ds ss k 0 = 0 then mxTo ss (k.toNat + 1) else 0

set_option maxHeartbeats 1000000 in
theorem specFastestTo_any (A1 A2 : Option Addr) (c1 c2 : Nat) (ds ss : List Int) (k : Int) (w : World) (h : ProfAt w A1 c1 A2 c2 ds ss) :
    Calls Try.prog 28 #[profV A1 ds.length c1 A2 ss.length c2, .int .i64 k] w fun e w' => e = .returned (.tuple #[.int .i64 (fastI ds ss k), .int .i64 (knotE ds ss k 0)]) ∧ Below w.heap.size w w' := by
  have H := Lib.hid h; clear h
  by_cases h0 : knotE ds ss k 0 = 0
  · have hv : profB ds ss = true := by
      unfold knotE at h0; split at h0
      · assumption
      · omega
    have hin : inB k 0 ((ds.length : Int) - 1 - 0) = true := by
      unfold knotE at h0; rw [if_pos hv] at h0; split at h0
      · assumption
      · omega
    obtain ⟨k0, k1⟩ := inB_bd hin
    obtain ⟨l1, l2, l3, l4⟩ := prof_len hv
    obtain ⟨kk, rfl⟩ := Int.eq_ofNat_of_zero_le k0
    have HF : Hid (fastI ds ss kk = mxTo ss (kk + 1)) := by show _ = _; simp [fastI, h0]
    have H0 := Lib.hid h0; clear h0 hin hv
    have hE : (knotE ds ss kk 0 != 0) = false := by rw [H0.out]; rfl
    go_enter Try.func28, Try.ntmps28
    go_wp2_with fail
    (refine (l04Knot_any _ _ _ _ _ _ _ _ _ ⟨H.out.1.below (B := w.heap.size) (by go_grown) (Nat.le_refl _), H.out.2.below (B := w.heap.size) (by go_grown) (Nat.le_refl _)⟩ (by omega) (by omega)).mono ?_; rintro e w1 ⟨rfl, hb1⟩; obtain ⟨B1, hz1, q1, s1, t1, x1, y1, z1⟩ := bkeep (w := w) [w.heap.size] (by first | (simp; done) | (simp; omega)) (by first | (go_grown; done) | exact bdrewN (by go_grown) _) hb1; (try simp at hz1); clear hb1)
    go_wp2
    go_loop [7, 8] (fun m i => ∃ j : Nat, j ≤ kk + 1 ∧ i = .int .i64 j ∧ m = .int .i64 (mxTo ss j)) (fun _ i => kk + 1 - (intOf i).toNat)
    case atStart => exact ⟨0, by omega, rfl, rfl⟩
    case round =>
      obtain ⟨j, hj, rfl, rfl⟩ := hrel
      by_cases hlt : j ≤ kk
      · obtain ⟨b', off', y, rfl, hb', hxk, hc'⟩ := H.out.2.at_ (k := j) (by omega)
        have HK := Lib.hid (mxTo_succ hxk); clear hxk
        have hlt' : j < ss.length := by omega
        go_wp2
        go_round
        case rel => exact ⟨j + 1, by omega, by go_num, vint HK.out.symm⟩
        case measure => simp [intOf]; omega
      · obtain rfl : j = kk + 1 := by omega
        go_wp2
        go_ret2
        exact ⟨by rw [HF.out, H0.out]; rfl, B1⟩
  · have hE : (knotE ds ss k 0 != 0) = true := by simpa using h0
    have HF : Hid (fastI ds ss k = 0) := by show _ = _; simp [fastI, h0]
    clear h0
    go_enter Try.func28, Try.ntmps28
    go_wp2_with fail
    (refine (l04Knot_any _ _ _ _ _ _ _ _ _ ⟨H.out.1.below (B := w.heap.size) (by go_grown) (Nat.le_refl _), H.out.2.below (B := w.heap.size) (by go_grown) (Nat.le_refl _)⟩ (by omega) (by omega)).mono ?_; rintro e w1 ⟨rfl, hb1⟩; obtain ⟨B1, hz1, q1, s1, t1, x1, y1, z1⟩ := bkeep (w := w) [w.heap.size] (by first | (simp; done) | (simp; omega)) (by first | (go_grown; done) | exact bdrewN (by go_grown) _) hb1; (try simp at hz1); clear hb1)
    go_wp2
    go_ret2
    exact ⟨by rw [HF.out]; rfl, B1⟩

theorem knot_ok {ds ss : List Int} {k less : Int} (h0 : knotE ds ss k less = 0) : profB ds ss = true ∧ 0 ≤ k ∧ k ≤ (ds.length : Int) - 1 - less := by
  have hv : profB ds ss = true := by
    unfold knotE at h0; split at h0
    · assumption
    · omega
  have hin : inB k 0 ((ds.length : Int) - 1 - less) = true := by
    unfold knotE at h0; rw [if_pos hv] at h0; split at h0
    · assumption
    · omega
  exact ⟨hv, inB_bd hin⟩

set_option maxHeartbeats 1000000 in
theorem implFastestTo_any (A1 A2 : Option Addr) (c1 c2 : Nat) (ds ss : List Int) (k : Int) (w : World) (h : ProfAt w A1 c1 A2 c2 ds ss) :
    Calls Try.prog 27 #[profV A1 ds.length c1 A2 ss.length c2, .int .i64 k] w fun e w' => e = .returned (.tuple #[.int .i64 (fastI ds ss k), .int .i64 (knotE ds ss k 0)]) ∧ Below w.heap.size w w' := by
  have hc2 := h.2.1
  have H := Lib.hid h; clear h
  by_cases h0 : knotE ds ss k 0 = 0
  · obtain ⟨hv, k0, k1⟩ := knot_ok h0
    obtain ⟨l1, l2, l3, l4⟩ := prof_len hv
    obtain ⟨kk, rfl⟩ := Int.eq_ofNat_of_zero_le k0
    have ht : (ss.take (kk + 1)).length = kk + 1 := by rw [List.length_take]; omega
    have HF : Hid (fastI ds ss kk = mxTo (ss.take (kk + 1)) (ss.take (kk + 1)).length) := by show _ = _; rw [ht, mxTo_take _ _ _ (Nat.le_refl _)]; simp [fastI, h0]
    have HT := Lib.hid ht; clear ht
    have hp : Hid (∀ x ∈ ss.take (kk + 1), 0 < x) := fun x hx => by
      obtain ⟨i, hi⟩ := List.getElem?_of_mem (List.mem_of_mem_take hx)
      have := prof_speed hv hi
      omega
    have H0 := Lib.hid h0; clear h0 hv
    have hE : (knotE ds ss kk 0 != 0) = false := by rw [H0.out]; rfl
    have hc3 : kk + 1 ≤ c2 := by omega
    go_enter Try.func27, Try.ntmps27
    go_wp2_with fail
    (refine (knotCode_any _ _ _ _ _ _ _ _ (H.out.below (B := w.heap.size) (by go_grown) (Nat.le_refl _))).mono ?_; rintro e w1 ⟨rfl, hb1⟩; obtain ⟨B1, hz1, q1, s1, t1, x1, y1, z1⟩ := bkeep (w := w) [w.heap.size] (by first | (simp; done) | (simp; omega)) (by first | (go_grown; done) | exact bdrewN (by go_grown) _) hb1; (try simp at hz1); clear hb1)
    go_wp2_with fail
    refine (slicesMax_any _ _ _ _ _ (fastI ds ss kk) ((H.out.2.below B1 (Nat.le_refl _)).take (kk + 1)) HT.out.symm (by omega) hp.out HF.out.symm).mono ?_; rintro e w' ⟨rfl, rfl⟩
    go_wp2
    go_ret2
    exact ⟨by rw [H0.out]; rfl, B1⟩
  · have hE : (knotE ds ss k 0 != 0) = true := by simpa using h0
    have HF : Hid (fastI ds ss k = 0) := by show _ = _; simp [fastI, h0]
    clear h0
    go_enter Try.func27, Try.ntmps27
    go_wp2_with fail
    (refine (knotCode_any _ _ _ _ _ _ _ _ (H.out.below (B := w.heap.size) (by go_grown) (Nat.le_refl _))).mono ?_; rintro e w1 ⟨rfl, hb1⟩; obtain ⟨B1, hz1, q1, s1, t1, x1, y1, z1⟩ := bkeep (w := w) [w.heap.size] (by first | (simp; done) | (simp; omega)) (by first | (go_grown; done) | exact bdrewN (by go_grown) _) hb1; (try simp at hz1); clear hb1)
    go_wp2
    go_ret2
    exact ⟨by rw [HF.out]; rfl, B1⟩
end Go.Proofs.Ytmgmhaikehjddaa
