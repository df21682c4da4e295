/- Depths: their codes, the layer of a depth, the speed at a depth. -/
import Derived.Test.YtbpekljemchmeaaFast
import Derived.Test.YtbpekljemchmeaaNum
namespace Go.Proofs.Ytbpekljemchmeaa
set_option linter.unusedSimpArgs false
set_option linter.unusedVariables false
open Go.RowKit

/-- the number at an index -/
def spd (xs : List Int) (k : Int) : Int := xs[k.toNat]?.getD 0
theorem spd_at {xs : List Int} {k : Nat} {x : Int} (h : xs[k]? = some x) : spd xs k = x := by simp [spd, h]
theorem spd_some {xs : List Int} {k : Int} (h0 : 0 ≤ k) (h1 : k < xs.length) : xs[k.toNat]? = some (spd xs k) := by
  have : k.toNat < xs.length := by omega
  simp [spd, List.getElem?_eq_getElem this]
theorem IntsAt.spd {w : World} {A : Option Addr} {c : Nat} {xs : List Int} (h : IntsAt w A c xs) (h0 : 0 < xs.length) :
    ∃ b off, A = some ⟨b, off, none⟩ ∧ b < w.heap.size ∧ ∀ k : Nat, k < xs.length → w.cell? ⟨b, off + k, none⟩ = some (.int .i64 (spd xs k)) := by
  obtain ⟨b, off, x, rfl, hb, hx, hc⟩ := h.at_ (k := 0) h0
  refine ⟨b, off, rfl, hb, fun k hk => ?_⟩
  obtain ⟨b', off', x', hA, hb', hx', hc'⟩ := h.at_ (k := k) hk
  simp only [Option.some.injEq, Addr.mk.injEq, and_true] at hA
  obtain ⟨rfl, rfl⟩ := hA
  rw [spd_at hx']; exact hc'

structure ProfOk (ds ss : List Int) : Prop where
  prof : profB ds ss = true
  l0 : 2 ≤ ds.length
  l1 : ds.length ≤ 12
  l2 : ss.length ≤ ds.length
  l3 : ds.length ≤ ss.length
  sp : ∀ k : Int, 0 ≤ k → k < ss.length → 1300000 ≤ spd ss k ∧ spd ss k ≤ 1700000
  dp : ∀ k : Int, 0 ≤ k → k < ss.length → 0 ≤ spd ds k ∧ spd ds k ≤ 1000000
  up : ∀ k : Int, 0 ≤ k → k + 1 < ss.length → spd ds k < spd ds (k + 1)
  z0 : spd ds 0 = 0
theorem profOk_of {ds ss : List Int} (hp : profB ds ss = true) : ProfOk ds ss := by
  obtain ⟨l0, l1, l2, l3⟩ := prof_len hp
  refine ⟨hp, l0, l1, l2, l3, fun k k0 k1 => prof_speed hp (spd_some k0 k1), fun k k0 k1 => ?_, fun k k0 k1 => ?_, by simp [spd, prof_zero hp]⟩
  · have := ris_in (prof_ris hp) (spd_some (xs := ds) k0 (by omega)); omega
  · obtain ⟨n, rfl⟩ := Int.eq_ofNat_of_zero_le k0
    have e1 := spd_some (xs := ds) (k := (n : Int)) (by omega) (by omega)
    have e2 := spd_some (xs := ds) (k := (n : Int) + 1) (by omega) (by omega)
    rw [show ((n : Int) + 1).toNat = n + 1 by omega] at e2
    exact ris_lt (prof_ris hp) e1 e2

/-- the code of a profile and a depth -/
def depE (ds ss : List Int) (z : Int) : Int := if profB ds ss then (if inB z 0 (spd ds ((ds.length : Int) - 1)) then 0 else 2) else 1
theorem dep_ok {ds ss : List Int} {z : Int} (h : depE ds ss z = 0) : ProfOk ds ss ∧ 0 ≤ z ∧ z ≤ spd ds ((ds.length : Int) - 1) := by
  unfold depE at h
  split at h
  · rename_i h1
    split at h
    · rename_i h2; exact ⟨profOk_of h1, inB_bd h2⟩
    · omega
  · omega

/-- the least layer that contains a depth -/
def IsLay (ds : List Int) (z : Int) (k : Nat) : Prop := k + 1 < ds.length ∧ (∀ j : Nat, j < k → spd ds ((j : Int) + 1) < z) ∧ z ≤ spd ds ((k : Int) + 1)
def layF (ds : List Int) (z : Int) : Nat → Nat → Nat
  | 0, k => k
  | n + 1, k => if spd ds ((k : Int) + 1) < z then layF ds z n (k + 1) else k
def lay (ds : List Int) (z : Int) : Nat := layF ds z ds.length 0
theorem layF_is {ds : List Int} {z : Int} {m : Nat} (hm : m + 1 < ds.length) (hz : z ≤ spd ds ((m : Int) + 1)) : ∀ n k, k ≤ m → m ≤ k + n → (∀ j : Nat, j < k → spd ds ((j : Int) + 1) < z) → IsLay ds z (layF ds z n k) := by
  intro n
  induction n with
  | zero => intro k h1 h2 h3; obtain rfl : k = m := by omega
            exact ⟨hm, h3, hz⟩
  | succ n ih =>
    intro k h1 h2 h3
    unfold layF
    split
    · rename_i hlt
      refine ih (k + 1) ?_ (by omega) ?_
      · rcases Nat.lt_or_ge k m with g | g
        · omega
        · obtain rfl : k = m := by omega
          omega
      · intro j hj
        by_cases e : j = k
        · subst e; exact hlt
        · exact h3 j (by omega)
    · rename_i hge
      exact ⟨by omega, h3, by omega⟩
theorem lay_is {ds ss : List Int} {z : Int} (h : depE ds ss z = 0) : IsLay ds z (lay ds z) := by
  obtain ⟨p, h0, h1⟩ := dep_ok h
  have := p.l0
  refine layF_is (m := ds.length - 2) (by omega) ?_ _ _ (by omega) (by omega) (fun j hj => absurd hj (by omega))
  rw [show ((ds.length - 2 : Nat) : Int) + 1 = (ds.length : Int) - 1 by omega]; exact h1
theorem IsLay.low {ds ss : List Int} {z : Int} {k : Nat} (p : ProfOk ds ss) (hz : 0 ≤ z) (h : IsLay ds z k) : spd ds k ≤ z := by
  rcases k with _ | k
  · have := p.z0; simpa using (by omega : spd ds 0 ≤ z)
  · have := h.2.1 k (by omega); rw [show ((k + 1 : Nat) : Int) = (k : Int) + 1 by omega]; omega

set_option maxHeartbeats 1000000 in
theorem layerOf_any (A1 A2 : Option Addr) (c1 n2 c2 : Nat) (ds : List Int) (z : Int) (k : Nat) (w : World) (h : IntsAt w A1 c1 ds) (hl : ds.length ≤ 12) (hk : IsLay ds z k) :
    Calls Try.prog 12 #[profV A1 ds.length c1 A2 n2 c2, .int .i64 z] w fun e w' => e = .returned (.int .i64 k) ∧ Below w.heap.size w w' := by
  obtain ⟨hk1, hk2, hk3⟩ := hk
  obtain ⟨b, off, rfl, hb, hc⟩ := h.spd (by omega)
  have HC := Lib.hid hc; have HK := Lib.hid hk2; clear hc hk2 h
  go_enter Try.func12, Try.ntmps12
  go_wp2
  go_loop [5] (fun i => ∃ j : Nat, j ≤ k ∧ i = .int .i64 j) (fun i => k - (intOf i).toNat)
  case atStart => exact ⟨0, by omega, rfl⟩
  case round =>
    obtain ⟨j, hj, rfl⟩ := hrel
    have hc := HC.out (j + 1) (by omega)
    rw [show ((j + 1 : Nat) : Int) = (j : Int) + 1 by omega] at hc
    by_cases hlt : j < k
    · have hv := HK.out j hlt
      go_wp2
      go_round
      case rel => exact ⟨j + 1, by omega, by go_num⟩
      case measure => simp [intOf]; omega
    · obtain rfl : j = k := by omega
      go_wp2
      go_ret
      exact ⟨rfl, by go_grown⟩
set_option maxHeartbeats 1000000 in
theorem l04Layer_any (A1 A2 : Option Addr) (c1 n2 c2 : Nat) (ds : List Int) (z : Int) (k : Nat) (w : World) (h : IntsAt w A1 c1 ds) (hl : ds.length ≤ 12) (hk : IsLay ds z k) :
    Calls Try.prog 16 #[profV A1 ds.length c1 A2 n2 c2, .int .i64 z] w fun e w' => e = .returned (.int .i64 k) ∧ Below w.heap.size w w' := by
  obtain ⟨hk1, hk2, hk3⟩ := hk
  obtain ⟨b, off, rfl, hb, hc⟩ := h.spd (by omega)
  have HC := Lib.hid hc; have HK := Lib.hid hk2; clear hc hk2 h
  go_enter Try.func16, Try.ntmps16
  go_wp2
  go_loop [5] (fun i => ∃ j : Nat, j ≤ k ∧ i = .int .i64 j) (fun i => k - (intOf i).toNat)
  case atStart => exact ⟨0, by omega, rfl⟩
  case round =>
    obtain ⟨j, hj, rfl⟩ := hrel
    have hc := HC.out (j + 1) (by omega)
    rw [show ((j + 1 : Nat) : Int) = (j : Int) + 1 by omega] at hc
    by_cases hlt : j < k
    · have hv := HK.out j hlt
      go_wp2
      go_round
      case rel => exact ⟨j + 1, by omega, by go_num⟩
      case measure => simp [intOf]; omega
    · obtain rfl : j = k := by omega
      go_wp2
      go_ret
      exact ⟨rfl, by go_grown⟩

theorem last_eq (A1 A2 : Option Addr) (c1 c2 n1 n2 : Nat) (m : Int) (w : World) (hn : n1 ≤ 9223372036854775807) (hm : (n1 : Int) - 1 = m) :
    Calls Try.prog 25 #[profV A1 n1 c1 A2 n2 c2] w fun e w' => e = .returned (.int .i64 m) ∧ Below w.heap.size w w' := by
  subst hm
  exact last_any _ _ _ _ _ _ _ hn
set_option maxHeartbeats 1000000 in
theorem depthClosure_any (A1 A2 : Option Addr) (c1 n2 c2 : Nat) (ds : List Int) (b o : Nat) (z : Int) (w : World) (h : IntsAt w A1 c1 ds) (hl : ds.length ≤ 12) (hl0 : 2 ≤ ds.length) (hb : b < w.heap.size) (hc : w.cell? ⟨b, o, none⟩ = some (.int .i64 z)) :
    Calls Try.prog 23 #[profV A1 ds.length c1 A2 n2 c2, .pointer (some ⟨b, o, none⟩)] w fun e w' => e = .returned (.bool (inB z 0 (spd ds ((ds.length : Int) - 1)))) ∧ Below w.heap.size w w' := by
  obtain ⟨b1, off, rfl, hb1, hd⟩ := h.spd (by omega)
  obtain ⟨m, hm⟩ : ∃ m : Nat, (ds.length : Int) - 1 = m := ⟨ds.length - 1, by omega⟩
  have hd := hd m (by omega)
  have m0 : (0 : Int) ≤ (m : Int) := by omega
  have m1 : (m : Int) < (ds.length : Int) := by omega
  have HM := Lib.hid hm
  rw [hm]
  clear hm hl0 h
  go_enter Try.func23, Try.ntmps23
  go_wp2_with fail
  go_region_held3 (fun w' => w'.cell? ⟨b, o, none⟩ = some (.int .i64 z) ∧ w'.cell? ⟨w.heap.size, 0, none⟩ = some (.slice (some ⟨b1, off, none⟩) ds.length c1) ∧ w'.cell? ⟨w.heap.size, 1, none⟩ = some (.slice A2 n2 c2) ∧ w'.cell? ⟨b1, off + m, none⟩ = some (.int .i64 (spd ds m))) (go_keep)
    (first
      | (go_at_call 25; refine (last_eq _ _ _ _ _ _ m _ (by omega) HM.out).mono ?_; rintro e w1 ⟨rfl, hb1⟩; obtain ⟨B1, hz1, q1, s1, t1, x1, y1, z1⟩ := bkeep (w := w) [w.heap.size] (by first | (simp; done) | (simp; omega)) (by first | (go_grown; done) | exact bdrewN (by go_grown) _) hb1; (try simp at hz1); clear hb1)
      | (go_at_call 24; refine (within_any _ _ _ _).mono ?_; rintro e w' ⟨rfl, rfl⟩))
  go_wp2
  go_ret
  exact ⟨rfl, by first | exact B1 | go_grown⟩
set_option maxHeartbeats 1000000 in
theorem depthCode_any (A1 A2 : Option Addr) (c1 c2 : Nat) (ds ss : List Int) (z : Int) (w : World) (h : ProfAt w A1 c1 A2 c2 ds ss) :
    Calls Try.prog 11 #[profV A1 ds.length c1 A2 ss.length c2, .int .i64 z] w fun e w' => e = .returned (.int .i64 (depE ds ss z)) ∧ Below w.heap.size w w' := by
  have H := Lib.hid h; clear h
  by_cases hp : profB ds ss = true
  · obtain ⟨l0, l1, l2, l3⟩ := prof_len hp
    have he : depE ds ss z = if inB z 0 (spd ds ((ds.length : Int) - 1)) then 0 else 2 := by unfold depE; rw [if_pos hp]
    have HE := Lib.hid he; clear he
    go_enter Try.func11, Try.ntmps11
    go_wp2_with (first
      | (go_at_call 30; refine (implIsProfile_any _ _ _ _ _ _ _ (H.out.1.below (B := w.heap.size) (by first | exact Below.refl _ _ | (go_grown; done) | exact bdrewN (by go_grown) _) (Nat.le_refl _)) (H.out.2.below (B := w.heap.size) (by first | exact Below.refl _ _ | (go_grown; done) | exact bdrewN (by go_grown) _) (Nat.le_refl _))).mono ?_; rintro e w1 ⟨rfl, hb1⟩; obtain ⟨B1, hz1, q1, s1, t1, x1, y1, z1⟩ := bkeep (w := w) [w.heap.size, w.heap.size + 1, w.heap.size + 2] (by first | (simp; done) | (simp; omega)) (by first | (go_grown; done) | exact bdrewN (by go_grown) _) hb1; (try simp at hz1); clear hb1)
      | (go_at_call 23; refine (depthClosure_any _ _ _ _ _ _ _ _ z _ (H.out.1.below (B := w.heap.size) (by first | exact Below.refl _ _ | (go_grown; done) | exact bdrewN (by go_grown) _) (Nat.le_refl _)) l1 l0 (by simp [*, go_sem]) (by simp [*, go_sem])).mono ?_; rintro e w2 ⟨rfl, hb2⟩; obtain ⟨B2, hz2, q2, s2, t2, x2, y2, z2⟩ := bkeep (w := w) [w.heap.size, w.heap.size + 1, w.heap.size + 2] (by first | (simp; done) | (simp; omega)) (by first | (go_grown; done) | exact bdrewN (by go_grown) _) hb2; (try simp at hz2); clear hb2)
      | go_in)
    all_goals go_ret
    all_goals exact ⟨ret_int (by rw [HE.out]; simp_all), by first | exact B2 | exact B1⟩
  · have he : depE ds ss z = 1 := by unfold depE; rw [if_neg hp]
    have HE := Lib.hid he; clear he
    have hp' : profB ds ss = false := by simpa using hp
    clear hp
    go_enter Try.func11, Try.ntmps11
    go_wp2_with (first
      | (go_at_call 30; refine (implIsProfile_any _ _ _ _ _ _ _ (H.out.1.below (B := w.heap.size) (by first | exact Below.refl _ _ | (go_grown; done) | exact bdrewN (by go_grown) _) (Nat.le_refl _)) (H.out.2.below (B := w.heap.size) (by first | exact Below.refl _ _ | (go_grown; done) | exact bdrewN (by go_grown) _) (Nat.le_refl _))).mono ?_; rintro e w1 ⟨rfl, hb1⟩; obtain ⟨B1, hz1, q1, s1, t1, x1, y1, z1⟩ := bkeep (w := w) [w.heap.size, w.heap.size + 1, w.heap.size + 2] (by first | (simp; done) | (simp; omega)) (by first | (go_grown; done) | exact bdrewN (by go_grown) _) hb1; (try simp at hz1); clear hb1)
      | go_in)
    all_goals go_ret
    all_goals exact ⟨ret_int (by rw [HE.out]), by first | exact B1 | go_grown⟩
set_option maxHeartbeats 1000000 in
theorem l04Code_any (A1 A2 : Option Addr) (c1 c2 : Nat) (ds ss : List Int) (z : Int) (w : World) (h : ProfAt w A1 c1 A2 c2 ds ss) :
    Calls Try.prog 15 #[profV A1 ds.length c1 A2 ss.length c2, .int .i64 z] w fun e w' => e = .returned (.int .i64 (depE ds ss z)) ∧ Below w.heap.size w w' := by
  by_cases hp : profB ds ss = true
  · obtain ⟨l0, l1, l2, l3⟩ := prof_len hp
    have he : depE ds ss z = if inB z 0 (spd ds ((ds.length : Int) - 1)) then 0 else 2 := by unfold depE; rw [if_pos hp]
    have HE := Lib.hid he; clear he
    obtain ⟨b1, off, e1, hb1, hd⟩ := h.1.spd (by omega)
    have hd := hd (ds.length - 1) (by omega)
    have hm : ((ds.length - 1 : Nat) : Int) = (ds.length : Int) - 1 := by omega
    rw [hm] at hd
    have H := Lib.hid h; clear h
    subst e1
    have ht : ((ds.length : Int) - 1).toNat = ds.length - 1 := by omega
    clear hm
    go_enter Try.func15, Try.ntmps15
    go_wp2_with (first
      | (go_at_call 26; refine (specIsProfile_any _ _ _ _ _ _ _ (H.out.1.below (B := w.heap.size) (by first | exact Below.refl _ _ | (go_grown; done) | exact bdrewN (by go_grown) _) (Nat.le_refl _)) (H.out.2.below (B := w.heap.size) (by first | exact Below.refl _ _ | (go_grown; done) | exact bdrewN (by go_grown) _) (Nat.le_refl _))).mono ?_; rintro e w1 ⟨rfl, hb1⟩; obtain ⟨B1, hz1, q1, s1, t1, x1, y1, z1⟩ := bkeep (w := w) [w.heap.size] (by first | (simp; done) | (simp; omega)) (by first | (go_grown; done) | exact bdrewN (by go_grown) _) hb1; (try simp at hz1); clear hb1)
      | (go_at_call 27; refine (l01In_any _ _ _ _).mono ?_; rintro e w' ⟨rfl, rfl⟩))
    all_goals go_ret
    all_goals exact ⟨ret_int (by rw [HE.out]; simp_all), by first | exact B1 | go_grown⟩
  · have he : depE ds ss z = 1 := by unfold depE; rw [if_neg hp]
    have HE := Lib.hid he; clear he
    have hp' : profB ds ss = false := by simpa using hp
    have H := Lib.hid h; clear h
    clear hp
    go_enter Try.func15, Try.ntmps15
    go_wp2_with (go_at_call 26; refine (specIsProfile_any _ _ _ _ _ _ _ (H.out.1.below (B := w.heap.size) (by first | exact Below.refl _ _ | (go_grown; done) | exact bdrewN (by go_grown) _) (Nat.le_refl _)) (H.out.2.below (B := w.heap.size) (by first | exact Below.refl _ _ | (go_grown; done) | exact bdrewN (by go_grown) _) (Nat.le_refl _))).mono ?_; rintro e w1 ⟨rfl, hb1⟩; obtain ⟨B1, hz1, q1, s1, t1, x1, y1, z1⟩ := bkeep (w := w) [w.heap.size] (by first | (simp; done) | (simp; omega)) (by first | (go_grown; done) | exact bdrewN (by go_grown) _) hb1; (try simp at hz1); clear hb1)
    all_goals go_ret
    all_goals exact ⟨ret_int (by rw [HE.out]), by first | exact B1 | go_grown⟩
end Go.Proofs.Ytbpekljemchmeaa
