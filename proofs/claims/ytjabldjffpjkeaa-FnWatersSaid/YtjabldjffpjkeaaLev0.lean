/- The level at a time: which reading is next, and what it comes to. -/
import Derived.Test.YtjabldjffpjkeaaGau
import Derived.Test.YtjabldjffpjkeaaSpd
namespace Go.Proofs.Ytjabldjffpjkeaa
set_option linter.unusedSimpArgs false
set_option linter.unusedVariables false
open Go.RowKit

structure GauOk (ts ls : List Int) : Prop where
  gau : gauB ts ls = true
  l1 : 1 ≤ ts.length
  l2 : ts.length ≤ 40
  l3 : ls.length ≤ ts.length
  l4 : ts.length ≤ ls.length
  t : ∀ k : Nat, k < ts.length → 0 ≤ spd ts k ∧ spd ts k ≤ 1000000
  up : ∀ j k : Nat, j < k → k < ts.length → spd ts j < spd ts k
  v : ∀ k : Nat, k < ts.length → -2000 ≤ spd ls k ∧ spd ls k ≤ 2000
theorem up_of {ts : List Int} (h : ∀ (k : Nat) x y, ts[k]? = some x → ts[k + 1]? = some y → x < y) : ∀ n j : Nat, j + (n + 1) < ts.length → spd ts j < spd ts ((j + (n + 1) : Nat) : Int) := by
  intro n
  induction n with
  | zero => intro j hj; exact h j _ _ (spd_get (by omega)) (spd_get (by omega))
  | succ n ih =>
    intro j hj
    have h1 := ih j (by omega)
    have h2 := h (j + (n + 1)) _ _ (spd_get (by omega)) (spd_get (by omega))
    rw [show j + (n + 1) + 1 = j + (n + 1 + 1) by omega] at h2
    omega
theorem gauOk_of {ts ls : List Int} (h : gauB ts ls = true) : GauOk ts ls := by
  obtain ⟨h1, h2, h3, h4, h5, h6⟩ := gau_is h
  refine ⟨h, h1, h2, by omega, by omega, fun k hk => h4 k _ (spd_get hk), fun j k hj hk => ?_, fun k hk => h6 k _ (spd_get (by omega))⟩
  have := up_of h5 (k - j - 1) j (by omega)
  rwa [show j + (k - j - 1 + 1) = k by omega] at this

/-- the first reading that is not earlier -/
structure BsAt (ts : List Int) (x : Int) (i : Nat) : Prop where
  le : i ≤ ts.length
  lo : ∀ k : Nat, k < i → spd ts k < x
  hi : ∀ k : Nat, i ≤ k → k < ts.length → x ≤ spd ts k
def bsF (ts : List Int) (x : Int) : Nat → Nat → Nat
  | 0, k => k
  | n + 1, k => if k < ts.length ∧ spd ts k < x then bsF ts x n (k + 1) else k
def bsI (ts : List Int) (x : Int) : Nat := bsF ts x ts.length 0
theorem bsF_is {ts : List Int} {x : Int} : ∀ n k, k ≤ ts.length → ts.length ≤ k + n → (∀ j : Nat, j < k → spd ts j < x) →
    bsF ts x n k ≤ ts.length ∧ (∀ j : Nat, j < bsF ts x n k → spd ts j < x) ∧ (bsF ts x n k < ts.length → x ≤ spd ts (bsF ts x n k)) := by
  intro n
  induction n with
  | zero => intro k h1 h2 h3; exact ⟨h1, h3, fun h => absurd h (by simp only [bsF]; omega)⟩
  | succ n ih =>
    intro k h1 h2 h3
    unfold bsF
    split
    · rename_i hlt
      refine ih (k + 1) (by omega) (by omega) fun j hj => ?_
      by_cases e : j = k
      · subst e; exact hlt.2
      · exact h3 j (by omega)
    · rename_i hge
      exact ⟨h1, h3, fun h => by omega⟩
theorem bs_at {ts ls : List Int} (p : GauOk ts ls) (x : Int) : BsAt ts x (bsI ts x) := by
  obtain ⟨h1, h2, h3⟩ := bsF_is (ts := ts) (x := x) ts.length 0 (by omega) (by omega) (fun j hj => absurd hj (by omega))
  refine ⟨h1, h2, fun k hk hl => ?_⟩
  have := h3 (by unfold bsI at hk; omega)
  by_cases e : bsF ts x ts.length 0 = k
  · rwa [e] at this
  · have := p.up (bsF ts x ts.length 0) k (by unfold bsI at hk; omega) hl
    omega

/-- the code of the level at a time -/
@[irreducible] def lvC (ts : List Int) (x : Int) : Int :=
  if inB x 0 1000000 then (if bsI ts x < ts.length ∧ spd ts (bsI ts x) = x then 0 else if bsI ts x = 0 ∨ bsI ts x = ts.length then 4 else 0) else 2
@[irreducible] def lvL (ts ls : List Int) (x : Int) : Int :=
  if lvC ts x = 0 then (if spd ts (bsI ts x) = x then spd ls (bsI ts x) else
    spd ls ((bsI ts x : Int) - 1) + (spd ls (bsI ts x) - spd ls ((bsI ts x : Int) - 1)) * (x - spd ts ((bsI ts x : Int) - 1)) / (spd ts (bsI ts x) - spd ts ((bsI ts x : Int) - 1))) else 0
@[irreducible] def lvH (ts ls : List Int) (x : Int) : Int :=
  if lvC ts x = 0 then (if spd ts (bsI ts x) = x then spd ls (bsI ts x) else
    spd ls ((bsI ts x : Int) - 1) + -(-((spd ls (bsI ts x) - spd ls ((bsI ts x : Int) - 1)) * (x - spd ts ((bsI ts x : Int) - 1))) / (spd ts (bsI ts x) - spd ts ((bsI ts x : Int) - 1)))) else 0
@[irreducible] def lvE (ts ls : List Int) (x : Int) : Int := if gauB ts ls then lvC ts x else 1
@[irreducible] def lvLo (ts ls : List Int) (x : Int) : Int := if gauB ts ls then lvL ts ls x else 0
@[irreducible] def lvHi (ts ls : List Int) (x : Int) : Int := if gauB ts ls then lvH ts ls x else 0
theorem lv_bad {ts ls : List Int} {x : Int} (h : gauB ts ls = false) : lvE ts ls x = 1 ∧ lvLo ts ls x = 0 ∧ lvHi ts ls x = 0 := by
  unfold lvE lvLo lvHi; simp [h]
theorem lv_good {ts ls : List Int} {x : Int} (h : gauB ts ls = true) : lvE ts ls x = lvC ts x ∧ lvLo ts ls x = lvL ts ls x ∧ lvHi ts ls x = lvH ts ls x := by
  unfold lvE lvLo lvHi; simp [h]
theorem lv_out {ts ls : List Int} {x : Int} (h : ¬ inB x 0 1000000 = true) : lvC ts x = 2 ∧ lvL ts ls x = 0 ∧ lvH ts ls x = 0 := by
  unfold lvL lvH lvC; simp [h]
theorem lv_found {ts ls : List Int} {x : Int} {i : Nat} (h : inB x 0 1000000 = true) (hi : bsI ts x = i) (h1 : i < ts.length) (h2 : spd ts i = x) : lvC ts x = 0 ∧ lvL ts ls x = spd ls i ∧ lvH ts ls x = spd ls i := by
  have h2' : spd ts (bsI ts x) = x := by rw [hi]; exact h2
  unfold lvL lvH lvC
  rw [hi] at h2' ⊢
  simp [h, h1, h2']
theorem lv_edge {ts ls : List Int} {x : Int} {i : Nat} (h : inB x 0 1000000 = true) (hi : bsI ts x = i) (h1 : ¬ (i < ts.length ∧ spd ts i = x)) (h2 : i = 0 ∨ i = ts.length) : lvC ts x = 4 ∧ lvL ts ls x = 0 ∧ lvH ts ls x = 0 := by
  unfold lvL lvH lvC
  rw [hi]
  rw [if_pos h, if_neg h1, if_pos h2]
  simp
theorem lv_inner {ts ls : List Int} {x : Int} {i : Nat} (h : inB x 0 1000000 = true) (hi : bsI ts x = i + 1) (h1 : i + 1 < ts.length) (h2 : spd ts ((i : Int) + 1) ≠ x) :
    lvC ts x = 0 ∧ lvL ts ls x = spd ls i + (spd ls ((i : Int) + 1) - spd ls i) * (x - spd ts i) / (spd ts ((i : Int) + 1) - spd ts i) ∧
    lvH ts ls x = spd ls i + -(-((spd ls ((i : Int) + 1) - spd ls i) * (x - spd ts i)) / (spd ts ((i : Int) + 1) - spd ts i)) := by
  have e : ((i + 1 : Nat) : Int) = (i : Int) + 1 := by omega
  have e2 : (i : Int) + 1 - 1 = i := by omega
  have e3 : lvC ts x = 0 := by
    unfold lvC
    rw [hi, e, if_pos h, if_neg (fun g => h2 g.2), if_neg (by omega)]
  refine ⟨e3, ?_, ?_⟩
  · unfold lvL
    rw [if_pos e3, hi, e, e2, if_neg h2]
  · unfold lvH
    rw [if_pos e3, hi, e, e2, if_neg h2]

structure LvOk (ts ls : List Int) (x : Int) (i : Nat) : Prop where
  d0 : 0 ≤ spd ts i
  d1 : spd ts i < spd ts ((i : Int) + 1)
  d2 : spd ts ((i : Int) + 1) ≤ 1000000
  s0 : -2000 ≤ spd ls i
  s1 : spd ls i ≤ 2000
  s2 : -2000 ≤ spd ls ((i : Int) + 1)
  s3 : spd ls ((i : Int) + 1) ≤ 2000
  z0 : spd ts i < x
  z1 : x < spd ts ((i : Int) + 1)
  n0 : -4000000000 ≤ (spd ls ((i : Int) + 1) - spd ls i) * (x - spd ts i)
  n1 : (spd ls ((i : Int) + 1) - spd ls i) * (x - spd ts i) ≤ 4000000000
theorem lvOk {ts ls : List Int} {x : Int} {i : Nat} (p : GauOk ts ls) (hi : bsI ts x = i + 1) (h1 : i + 1 < ts.length) (h2 : spd ts ((i : Int) + 1) ≠ x) : LvOk ts ls x i := by
  have e : ((i + 1 : Nat) : Int) = (i : Int) + 1 := by omega
  have b := bs_at p x
  rw [hi] at b
  have b1 := b.lo i (by omega)
  have b2 := b.hi (i + 1) (by omega) h1
  have a1 := p.t i (by omega)
  have a2 := p.t (i + 1) h1
  have a3 := p.up i (i + 1) (by omega) h1
  have a4 := p.v i (by omega)
  have a5 := p.v (i + 1) h1
  rw [e] at b2 a2 a3 a5
  obtain ⟨m1, m2⟩ := mul_bd (a := spd ls ((i : Int) + 1) - spd ls i) (b := x - spd ts i) (A := 4000) (B := 1000000) (by omega) (by omega) (by omega) (by omega)
  exact ⟨by omega, by omega, by omega, by omega, by omega, by omega, by omega, by omega, by omega, by omega, by omega⟩
end Go.Proofs.Ytjabldjffpjkeaa
