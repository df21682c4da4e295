/- Soundings in conflict are near to each other, and the shoalest sounding has the least lower bound; plain. -/
import Derived.Test.YtbbnnahjghlnoaaCp0
import Derived.Test.YtbbnnahjghlnoaaShoal
import Derived.Test.YtbbnnahjghlnoaaHas
namespace Go.Proofs.Ytbbnnahjghlnoaa
set_option linter.unusedSimpArgs false
set_option linter.unusedVariables false

theorem sh_least (xs : List Snd) : ∀ (k i : Nat), i < k → lowAt xs (shAt xs k) ≤ lowAt xs i := by
  intro k
  induction k with
  | zero => intro i h; omega
  | succ k ih =>
    intro i h
    rw [shAt]
    by_cases e : i = k
    · subst e
      split <;> omega
    · have := ih i (by omega)
      split <;> omega
theorem near_mem {xs : List Snd} {x y r : Int} {j : Nat} {t : Snd} (h : xs[j]? = some t) (hb : nearB t x y r = true) : ∀ k, j < k → (j : Int) ∈ nearTo xs x y r k := by
  intro k
  induction k with
  | zero => intro q; omega
  | succ k ih =>
    intro q
    rw [nearTo, List.mem_append]
    by_cases e : j = k
    · subst e
      right
      rw [h]
      simp [hb]
    · exact .inl (ih (by omega))
theorem sq_swap (a b : Int) : (a - b) * (a - b) = (b - a) * (b - a) := by grind
theorem cf_near {xs : List Snd} {r : Int} {i j : Nat} {s t : Snd} (hv : sndsB xs = true) (hr : inB r 0 10000 = true) (h1 : xs[i]? = some s) (h2 : xs[j]? = some t) (h : cpB s t r = true) :
    nearE xs s.x s.y r = 0 ∧ hasB (nearL xs s.x s.y r) j = true := by
  obtain ⟨a, b, d, e⟩ := s
  obtain ⟨x0, x1, y0, y1⟩ := snd_xy hv h1
  have e0 : nearE xs a b r = 0 := nearE_ok hv hr (by unfold inB; simp; omega) (by unfold inB; simp; omega)
  refine ⟨e0, ?_⟩
  show hasB (nearL xs a b r) j = true
  unfold nearL
  rw [if_pos e0]
  unfold cpB at h
  rw [Bool.and_eq_true] at h
  have hn : nearB t a b r = true := by
    have g := of_decide_eq_true h.1
    unfold nearB
    apply decide_eq_true
    rw [sq_swap t.x a, sq_swap t.y b]
    exact g
  unfold hasB
  rw [List.any_eq_true]
  exact ⟨j, near_mem h2 hn _ (List.getElem?_eq_some_iff.1 h2).1, by simp⟩
/-- what the law asks of a pair -/
theorem cf_pair {xs : List Snd} {r : Int} (h0 : cpE xs r = 0) {k : Nat} {p : Int × Int} (hp : (cpL xs r)[k]? = some p) :
    ∃ (i j : Nat) (a b d e a' b' d' e' : Int), p = ((i : Int), (j : Int)) ∧ i < xs.length ∧ j < xs.length ∧ xs[i]? = some ⟨a, b, d, e⟩ ∧ xs[j]? = some ⟨a', b', d', e'⟩ ∧ nearE xs a b r = 0 ∧ hasB (nearL xs a b r) j = true ∧
      -2000 ≤ d ∧ d ≤ 1000000 ∧ 0 ≤ e ∧ e ≤ 5000 ∧ -2000 ≤ d' ∧ d' ≤ 1000000 ∧ 0 ≤ e' ∧ e' ≤ 5000 ∧ (d + e < d' - e' ∨ d' + e' < d - e) := by
  have hv : sndsB xs = true := by
    cases q : sndsB xs
    · simp [cpE, q] at h0
    · rfl
  have hr : inB r 0 10000 = true := by
    cases q : inB r 0 10000
    · simp [cpE, q, hv] at h0
    · rfl
  rw [(cp_ok hv hr).2] at hp
  obtain ⟨i, j, ⟨a, b, d, e⟩, ⟨a', b', d', e'⟩, -, hp', h1, h2, hc⟩ := cpTo_mem _ (List.mem_of_getElem? hp)
  obtain ⟨n1, n2⟩ := cf_near hv hr h1 h2 hc
  obtain ⟨q1, q2, q3, q4⟩ := snd_bd hv h1
  obtain ⟨q5, q6, q7, q8⟩ := snd_bd hv h2
  unfold cpB at hc
  simp only [Bool.and_eq_true, Bool.or_eq_true, decide_eq_true_eq] at hc
  exact ⟨i, j, a, b, d, e, a', b', d', e', hp', (List.getElem?_eq_some_iff.1 h1).1, (List.getElem?_eq_some_iff.1 h2).1, h1, h2, n1, n2, q1, q2, q3, q4, q5, q6, q7, q8, hc.2⟩
theorem cf_shoal {xs : List Snd} (h : shoalE xs = 0) : sndsB xs = true ∧ ∃ m : Nat, m < xs.length ∧ shoalI xs = (m : Int) ∧ ∀ i, i < xs.length → lowAt xs m ≤ lowAt xs i := by
  have hv : sndsB xs = true := by
    cases q : sndsB xs
    · simp [shoalE, q] at h
    · rfl
  have hne : xs.isEmpty = false := by
    cases q : xs.isEmpty
    · rfl
    · simp [shoalE, hv, q] at h
  have h0 : 0 < xs.length := by cases xs <;> simp_all
  exact ⟨hv, shAt xs xs.length, shAt_lt xs _ (Nat.le_refl _) h0, by unfold shoalI; simp [hv, hne], fun i hi => sh_least xs _ i hi⟩
end Go.Proofs.Ytbbnnahjghlnoaa
