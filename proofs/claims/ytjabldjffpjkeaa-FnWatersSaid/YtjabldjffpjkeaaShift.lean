/- A gauge shifted: what ShiftGauge returns, by the program and by the reference. -/
import Derived.Test.YtjabldjffpjkeaaTwo
import Derived.Test.YtjabldjffpjkeaaGau
import Derived.Test.YtjabldjffpjkeaaSpd
import Derived.IntWalk
import Derived.Deep.DeepCutAuto
namespace Go.Proofs.Ytjabldjffpjkeaa
set_option linter.unusedSimpArgs false
set_option linter.unusedVariables false
open Go.RowKit


/-- the first k numbers, each with d added -/
def shF (xs : List Int) (d : Int) (k : Nat) : List Int := (xs.take k).map (· + d)
theorem shF_len {xs : List Int} {d : Int} {k : Nat} (h : k ≤ xs.length) : (shF xs d k).length = k := by simp [shF]; omega
theorem shF_succ {xs : List Int} {d x : Int} {k : Nat} (h : xs[k]? = some x) : shF xs d k ++ [x + d] = shF xs d (k + 1) := by
  unfold shF
  rw [List.take_add_one, h]
  simp
def shA (xs : List Int) (d : Int) : List Int := shF xs d xs.length
theorem shA_len (xs : List Int) (d : Int) : (shA xs d).length = xs.length := shF_len (Nat.le_refl _)

@[irreducible] def shC (ts ls : List Int) (a b : Int) : Int :=
  if gauB ts ls then (if inB a (-1000000) 1000000 && inB b (-2000) 2000 then (if gauB (shA ts a) (shA ls b) then 0 else 3) else 2) else 1
@[irreducible] def shT (ts ls : List Int) (a b : Int) : List Int := if shC ts ls a b = 0 then shA ts a else []
@[irreducible] def shL (ts ls : List Int) (a b : Int) : List Int := if shC ts ls a b = 0 then shA ls b else []
theorem sh_of {ts ls : List Int} {a b c : Int} (h : shC ts ls a b = c) (hc : c ≠ 0) : shT ts ls a b = [] ∧ shL ts ls a b = [] := by
  unfold shT shL
  rw [h, if_neg hc]
  exact ⟨rfl, by rw [if_neg hc]⟩
theorem sh_bad {ts ls : List Int} {a b : Int} (h : gauB ts ls = false) : shC ts ls a b = 1 := by unfold shC; rw [if_neg (by rw [h]; simp)]
theorem sh_range {ts ls : List Int} {a b : Int} (h : gauB ts ls = true) (h1 : (inB a (-1000000) 1000000 && inB b (-2000) 2000) = false) : shC ts ls a b = 2 := by unfold shC; rw [if_pos h, if_neg (by rw [h1]; simp)]
theorem sh_lim {ts ls : List Int} {a b : Int} (h : gauB ts ls = true) (h1 : (inB a (-1000000) 1000000 && inB b (-2000) 2000) = true) (h2 : gauB (shA ts a) (shA ls b) = false) : shC ts ls a b = 3 := by unfold shC; rw [if_pos h, if_pos h1, if_neg (by rw [h2]; simp)]
theorem sh_ok {ts ls : List Int} {a b : Int} (h : gauB ts ls = true) (h1 : (inB a (-1000000) 1000000 && inB b (-2000) 2000) = true) (h2 : gauB (shA ts a) (shA ls b) = true) : shC ts ls a b = 0 ∧ shT ts ls a b = shA ts a ∧ shL ts ls a b = shA ls b := by
  have e : shC ts ls a b = 0 := by unfold shC; rw [if_pos h, if_pos h1, if_pos h2]
  unfold shT shL
  rw [e]
  exact ⟨rfl, rfl, rfl⟩
theorem sh_len (ts ls : List Int) (a b : Int) : (shT ts ls a b).length ≤ 1000 ∧ (shL ts ls a b).length ≤ 1000 := by
  by_cases h : gauB ts ls = true
  · obtain ⟨l1, l2, l3, -, -, -⟩ := gau_is h
    unfold shT shL
    split
    · rw [shA_len, shA_len]; omega
    · simp
  · have e := sh_bad (a := a) (b := b) (ts := ts) (ls := ls) (by simpa using h)
    obtain ⟨e1, e2⟩ := sh_of e (by omega)
    rw [e1, e2]; simp

end Go.Proofs.Ytjabldjffpjkeaa
