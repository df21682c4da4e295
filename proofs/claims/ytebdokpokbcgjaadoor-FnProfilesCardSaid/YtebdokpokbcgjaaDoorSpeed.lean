/- Depths: their codes, the layer of a depth, the speed at a depth. -/
import Derived.Test.YtebdokpokbcgjaaDoorFast
import Derived.Test.YtebdokpokbcgjaaDoorNum
namespace Go.Proofs.YtebdokpokbcgjaaDoor
set_option linter.unusedSimpArgs false
set_option linter.unusedVariables false
open Go.RowKit

/-- the number at an index -/
def spd (xs : List Int) (k : Int) : Int := xs[k.toNat]?.getD 0
theorem spd_at {xs : List Int} {k : Nat} {x : Int} (h : xs[k]? = some x) : spd xs k = x := by simp [spd, h]
theorem spd_some {xs : List Int} {k : Int} (h0 : 0 ≤ k) (h1 : k < xs.length) : xs[k.toNat]? = some (spd xs k) := by
  have : k.toNat < xs.length := by omega
  simp [spd, List.getElem?_eq_getElem this]
theorem IntsAt.spd {w : World} {A : Option Addr} {c : Nat} {xs : List Int} (h : IntsAt w A c xs) (h0 : 0 < xs.length) :
    ∃ b off, A = some ⟨b, off, none⟩ ∧ b < w.heap.size ∧ ∀ k : Nat, k < xs.length → w.cell? ⟨b, off + k, none⟩ = some (.int .i64 (spd xs k)) := by
  obtain ⟨b, off, x, rfl, hb, hx, hc⟩ := h.at_ (k := 0) h0
  refine ⟨b, off, rfl, hb, fun k hk => ?_⟩
  obtain ⟨b', off', x', hA, hb', hx', hc'⟩ := h.at_ (k := k) hk
  simp only [Option.some.injEq, Addr.mk.injEq, and_true] at hA
  obtain ⟨rfl, rfl⟩ := hA
  rw [spd_at hx']; exact hc'

structure ProfOk (ds ss : List Int) : Prop where
  prof : profB ds ss = true
  l0 : 2 ≤ ds.length
  l1 : ds.length ≤ 12
  l2 : ss.length ≤ ds.length
  l3 : ds.length ≤ ss.length
  sp : ∀ k : Int, 0 ≤ k → k < ss.length → 1300000 ≤ spd ss k ∧ spd ss k ≤ 1700000
  dp : ∀ k : Int, 0 ≤ k → k < ss.length → 0 ≤ spd ds k ∧ spd ds k ≤ 1000000
  up : ∀ k : Int, 0 ≤ k → k + 1 < ss.length → spd ds k < spd ds (k + 1)
  z0 : spd ds 0 = 0
theorem profOk_of {ds ss : List Int} (hp : profB ds ss = true) : ProfOk ds ss := by
  obtain ⟨l0, l1, l2, l3⟩ := prof_len hp
  refine ⟨hp, l0, l1, l2, l3, fun k k0 k1 => prof_speed hp (spd_some k0 k1), fun k k0 k1 => ?_, fun k k0 k1 => ?_, by simp [spd, prof_zero hp]⟩
  · have := ris_in (prof_ris hp) (spd_some (xs := ds) k0 (by omega)); omega
  · obtain ⟨n, rfl⟩ := Int.eq_ofNat_of_zero_le k0
    have e1 := spd_some (xs := ds) (k := (n : Int)) (by omega) (by omega)
    have e2 := spd_some (xs := ds) (k := (n : Int) + 1) (by omega) (by omega)
    rw [show ((n : Int) + 1).toNat = n + 1 by omega] at e2
    exact ris_lt (prof_ris hp) e1 e2

/-- the code of a profile and a depth -/
def depE (ds ss : List Int) (z : Int) : Int := if profB ds ss then (if inB z 0 (spd ds ((ds.length : Int) - 1)) then 0 else 2) else 1
theorem dep_ok {ds ss : List Int} {z : Int} (h : depE ds ss z = 0) : ProfOk ds ss ∧ 0 ≤ z ∧ z ≤ spd ds ((ds.length : Int) - 1) := by
  unfold depE at h
  split at h
  · rename_i h1
    split at h
    · rename_i h2; exact ⟨profOk_of h1, inB_bd h2⟩
    · omega
  · omega

/-- the least layer that contains a depth -/
def IsLay (ds : List Int) (z : Int) (k : Nat) : Prop := k + 1 < ds.length ∧ (∀ j : Nat, j < k → spd ds ((j : Int) + 1) < z) ∧ z ≤ spd ds ((k : Int) + 1)
def layF (ds : List Int) (z : Int) : Nat → Nat → Nat
  | 0, k => k
  | n + 1, k => if spd ds ((k : Int) + 1) < z then layF ds z n (k + 1) else k
def lay (ds : List Int) (z : Int) : Nat := layF ds z ds.length 0
theorem layF_is {ds : List Int} {z : Int} {m : Nat} (hm : m + 1 < ds.length) (hz : z ≤ spd ds ((m : Int) + 1)) : ∀ n k, k ≤ m → m ≤ k + n → (∀ j : Nat, j < k → spd ds ((j : Int) + 1) < z) → IsLay ds z (layF ds z n k) := by
  intro n
  induction n with
  | zero => intro k h1 h2 h3; obtain rfl : k = m := by omega
            exact ⟨hm, h3, hz⟩
  | succ n ih =>
    intro k h1 h2 h3
    unfold layF
    split
    · rename_i hlt
      refine ih (k + 1) ?_ (by omega) ?_
      · rcases Nat.lt_or_ge k m with g | g
        · omega
        · obtain rfl : k = m := by omega
          omega
      · intro j hj
        by_cases e : j = k
        · subst e; exact hlt
        · exact h3 j (by omega)
    · rename_i hge
      exact ⟨by omega, h3, by omega⟩
theorem lay_is {ds ss : List Int} {z : Int} (h : depE ds ss z = 0) : IsLay ds z (lay ds z) := by
  obtain ⟨p, h0, h1⟩ := dep_ok h
  have := p.l0
  refine layF_is (m := ds.length - 2) (by omega) ?_ _ _ (by omega) (by omega) (fun j hj => absurd hj (by omega))
  rw [show ((ds.length - 2 : Nat) : Int) + 1 = (ds.length : Int) - 1 by omega]; exact h1
theorem IsLay.low {ds ss : List Int} {z : Int} {k : Nat} (p : ProfOk ds ss) (hz : 0 ≤ z) (h : IsLay ds z k) : spd ds k ≤ z := by
  rcases k with _ | k
  · have := p.z0; simpa using (by omega : spd ds 0 ≤ z)
  · have := h.2.1 k (by omega); rw [show ((k + 1 : Nat) : Int) = (k : Int) + 1 by omega]; omega


theorem last_eq (A1 A2 : Option Addr) (c1 c2 n1 n2 : Nat) (m : Int) (w : World) (hn : n1 ≤ 9223372036854775807) (hm : (n1 : Int) - 1 = m) :
    Calls Tryd.prog 114 #[profV A1 n1 c1 A2 n2 c2] w fun e w' => e = .returned (.int .i64 m) ∧ Below w.heap.size w w' := by
  subst hm
  exact last_any _ _ _ _ _ _ _ hn
end Go.Proofs.YtebdokpokbcgjaaDoor
