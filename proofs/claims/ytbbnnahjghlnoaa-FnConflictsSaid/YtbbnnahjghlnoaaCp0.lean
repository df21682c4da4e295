/- The pairs of soundings in conflict; plain. -/
import Derived.Test.YtbbnnahjghlnoaaNear
import Derived.Test.YtbbnnahjghlnoaaPr0
namespace Go.Proofs.Ytbbnnahjghlnoaa
set_option linter.unusedSimpArgs false
set_option linter.unusedVariables false

def cpB (s t : Snd) (r : Int) : Bool := decide ((s.x - t.x) * (s.x - t.x) + (s.y - t.y) * (s.y - t.y) ≤ r * r) && (decide (s.d + s.e < t.d - t.e) || decide (t.d + t.e < s.d - s.e))
def cpAt (xs : List Snd) (r : Int) (i j : Nat) : List (Int × Int) := match xs[i]?, xs[j]? with | some s, some t => if cpB s t r then [((i : Int), (j : Int))] else [] | _, _ => []
def cpRow (xs : List Snd) (r : Int) (i : Nat) : Nat → List (Int × Int)
  | 0 => []
  | k + 1 => cpRow xs r i k ++ cpAt xs r i (i + 1 + k)
def cpTo (xs : List Snd) (r : Int) : Nat → List (Int × Int)
  | 0 => []
  | i + 1 => cpTo xs r i ++ cpRow xs r i (xs.length - (i + 1))
/-- behind i rows and k of the next -/
def cpMid (xs : List Snd) (r : Int) (i k : Nat) : List (Int × Int) := cpTo xs r i ++ cpRow xs r i k
theorem cpAt_len (xs : List Snd) (r : Int) (i j : Nat) : (cpAt xs r i j).length ≤ 1 := by
  unfold cpAt
  split
  · split <;> simp
  · simp
theorem cpRow_len (xs : List Snd) (r : Int) (i : Nat) : ∀ k, (cpRow xs r i k).length ≤ k := by
  intro k
  induction k with
  | zero => simp [cpRow]
  | succ k ih => rw [cpRow, List.length_append]; have := cpAt_len xs r i (i + 1 + k); omega
theorem cpTo_len (xs : List Snd) (r : Int) : ∀ i, (cpTo xs r i).length ≤ i * xs.length := by
  intro i
  induction i with
  | zero => simp [cpTo]
  | succ i ih => rw [cpTo, List.length_append, Nat.succ_mul]; have := cpRow_len xs r i (xs.length - (i + 1)); omega
theorem cpMid_len {xs : List Snd} {r : Int} {i k : Nat} (h : xs.length ≤ 200) (hi : i ≤ xs.length) (hk : k ≤ xs.length) : (cpMid xs r i k).length ≤ 40200 := by
  unfold cpMid
  rw [List.length_append]
  have a := cpTo_len xs r i
  have b := cpRow_len xs r i k
  have c : i * xs.length ≤ 200 * 200 := Nat.mul_le_mul (by omega) h
  omega
theorem cpMid_zero (xs : List Snd) (r : Int) (i : Nat) : cpMid xs r i 0 = cpTo xs r i := by unfold cpMid; rw [cpRow, List.append_nil]
theorem cpMid_end {xs : List Snd} {r : Int} {i k : Nat} (h : k = xs.length - (i + 1)) : cpMid xs r i k = cpTo xs r (i + 1) := by unfold cpMid; rw [h]; rfl
theorem cpMid_yes {xs : List Snd} {r : Int} {i k : Nat} {s t : Snd} (h1 : xs[i]? = some s) (h2 : xs[i + 1 + k]? = some t) (h : cpB s t r = true) : cpMid xs r i (k + 1) = cpMid xs r i k ++ [((i : Int), ((i + 1 + k : Nat) : Int))] := by
  unfold cpMid
  rw [cpRow, cpAt, h1, h2]
  simp [h]
theorem cpMid_no {xs : List Snd} {r : Int} {i k : Nat} {s t : Snd} (h1 : xs[i]? = some s) (h2 : xs[i + 1 + k]? = some t) (h : cpB s t r = false) : cpMid xs r i (k + 1) = cpMid xs r i k := by
  unfold cpMid
  rw [cpRow, cpAt, h1, h2]
  simp [h]
def cpE (xs : List Snd) (r : Int) : Int := if sndsB xs then (if inB r 0 10000 then 0 else 2) else 1
def cpL (xs : List Snd) (r : Int) : List (Int × Int) := if cpE xs r = 0 then cpTo xs r xs.length else []
theorem cp_ok {xs : List Snd} {r : Int} (h1 : sndsB xs = true) (h2 : inB r 0 10000 = true) : cpE xs r = 0 ∧ cpL xs r = cpTo xs r xs.length := by
  have e : cpE xs r = 0 := by simp [cpE, h1, h2]
  exact ⟨e, by unfold cpL; rw [if_pos e]⟩
theorem cp_bad {xs : List Snd} {r : Int} {e : Int} (h : cpE xs r = e) (he : e ≠ 0) : cpE xs r = e ∧ cpL xs r = [] := ⟨h, by unfold cpL; rw [h, if_neg he]⟩
theorem cpL_len (xs : List Snd) (r : Int) : (cpL xs r).length ≤ 40000 := by
  unfold cpL
  split
  · rename_i h
    have hv : sndsB xs = true := by
      cases q : sndsB xs
      · simp [cpE, q] at h
      · rfl
    have a := cpTo_len xs r xs.length
    have c : xs.length * xs.length ≤ 200 * 200 := Nat.mul_le_mul (snds_len hv) (snds_len hv)
    omega
  · simp
/-- what is told of a pair -/
theorem cpRow_mem {xs : List Snd} {r : Int} {i : Nat} {p : Int × Int} : ∀ k, p ∈ cpRow xs r i k → ∃ (j : Nat) (s t : Snd), i < j ∧ p = ((i : Int), (j : Int)) ∧ xs[i]? = some s ∧ xs[j]? = some t ∧ cpB s t r = true := by
  intro k
  induction k with
  | zero => intro h; simp [cpRow] at h
  | succ k ih =>
    intro h
    rw [cpRow, List.mem_append] at h
    rcases h with h | h
    · exact ih h
    · unfold cpAt at h
      split at h
      · rename_i s t h1 h2
        split at h
        · rename_i hb
          simp at h
          exact ⟨i + 1 + k, s, t, by omega, h, h1, h2, hb⟩
        · simp at h
      · simp at h
theorem cpTo_mem {xs : List Snd} {r : Int} {p : Int × Int} : ∀ n, p ∈ cpTo xs r n → ∃ (i j : Nat) (s t : Snd), i < j ∧ p = ((i : Int), (j : Int)) ∧ xs[i]? = some s ∧ xs[j]? = some t ∧ cpB s t r = true := by
  intro n
  induction n with
  | zero => intro h; simp [cpTo] at h
  | succ n ih =>
    intro h
    rw [cpTo, List.mem_append] at h
    rcases h with h | h
    · exact ih h
    · obtain ⟨j, s, t, q⟩ := cpRow_mem _ h
      exact ⟨n, j, s, t, q⟩
end Go.Proofs.Ytbbnnahjghlnoaa
