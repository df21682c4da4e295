/- A list of soundings thinned: one for each square; plain. -/
import Derived.Test.YtbbnnahjghlnoaaShoal
namespace Go.Proofs.Ytbbnnahjghlnoaa
set_option linter.unusedSimpArgs false
set_option linter.unusedVariables false

/-- the square of a sounding -/
def thQ (xs : List Snd) (r : Int) (k : Nat) : Int × Int := match xs[k]? with | some s => (s.x.tdiv r, s.y.tdiv r) | none => (0, 0)
/-- sounding k goes ahead of sounding i -/
def thB (xs : List Snd) (r : Int) (k i : Nat) : Bool := decide (thQ xs r k = thQ xs r i) && (decide (lowAt xs k < lowAt xs i) || (decide (lowAt xs k = lowAt xs i) && decide (k < i)))
/-- none of the first k goes ahead of i -/
def thK (xs : List Snd) (r : Int) (i : Nat) : Nat → Bool
  | 0 => true
  | k + 1 => thK xs r i k && !thB xs r k i
/-- the list of those that stay -/
def thTo (xs : List Snd) (r : Int) : Nat → List Int
  | 0 => []
  | i + 1 => if thK xs r i xs.length then thTo xs r i ++ [(i : Int)] else thTo xs r i
/-- the best of the first k in a square -/
def thM (xs : List Snd) (r : Int) (c : Int × Int) : Nat → Option Nat
  | 0 => none
  | k + 1 => if thQ xs r k = c then (match thM xs r c k with | none => some k | some m => if lowAt xs k < lowAt xs m then some k else some m) else thM xs r c k
theorem thQ_of {xs : List Snd} {r : Int} {k : Nat} {x y d e : Int} (h : xs[k]? = some ⟨x, y, d, e⟩) : thQ xs r k = (x.tdiv r, y.tdiv r) := by unfold thQ; rw [h]
theorem thM_other {xs : List Snd} {r : Int} {c : Int × Int} {k : Nat} (h : thQ xs r k ≠ c) : thM xs r c (k + 1) = thM xs r c k := by rw [thM, if_neg h]
theorem thM_new {xs : List Snd} {r : Int} {c : Int × Int} {k : Nat} (h : thQ xs r k = c) (h1 : thM xs r c k = none) : thM xs r c (k + 1) = some k := by rw [thM, if_pos h, h1]
theorem thM_less {xs : List Snd} {r : Int} {c : Int × Int} {k m : Nat} (h : thQ xs r k = c) (h1 : thM xs r c k = some m) (h2 : lowAt xs k < lowAt xs m) : thM xs r c (k + 1) = some k := by
  rw [thM, if_pos h, h1]
  show (if lowAt xs k < lowAt xs m then some k else some m) = some k
  rw [if_pos h2]
theorem thM_stay {xs : List Snd} {r : Int} {c : Int × Int} {k m : Nat} (h : thQ xs r k = c) (h1 : thM xs r c k = some m) (h2 : ¬ lowAt xs k < lowAt xs m) : thM xs r c (k + 1) = some m := by
  rw [thM, if_pos h, h1]
  show (if lowAt xs k < lowAt xs m then some k else some m) = some m
  rw [if_neg h2]
theorem thM_some {xs : List Snd} {r : Int} {c : Int × Int} : ∀ {k m : Nat}, thM xs r c k = some m → m < k ∧ thQ xs r m = c ∧ ∀ j, j < k → thQ xs r j = c → lowAt xs m < lowAt xs j ∨ (lowAt xs m = lowAt xs j ∧ m ≤ j) := by
  intro k
  induction k with
  | zero => intro m h; cases h
  | succ k ih =>
    intro m h
    by_cases hq : thQ xs r k = c
    · cases h1 : thM xs r c k with
      | none =>
        rw [thM_new hq h1] at h
        injection h with h
        subst h
        have hn : ∀ n, n ≤ k → thM xs r c n = none → ∀ j, j < n → thQ xs r j ≠ c := by
          intro n
          induction n with
          | zero => intro _ _ j hj; omega
          | succ n ihn =>
            intro hn hm j hj e
            by_cases hqn : thQ xs r n = c
            · rw [thM, if_pos hqn] at hm
              split at hm
              · cases hm
              · split at hm <;> cases hm
            · rw [thM_other hqn] at hm
              by_cases ej : j = n
              · subst ej; exact hqn e
              · exact ihn (by omega) hm j (by omega) e
        refine ⟨by omega, hq, fun j hj hqj => ?_⟩
        by_cases ej : j = k
        · subst ej; exact .inr ⟨rfl, Nat.le_refl _⟩
        · exact absurd hqj (hn k (Nat.le_refl _) h1 j (by omega))
      | some m' =>
        obtain ⟨a, b, g⟩ := ih h1
        by_cases hl : lowAt xs k < lowAt xs m'
        · rw [thM_less hq h1 hl] at h
          injection h with h
          subst h
          refine ⟨by omega, hq, fun j hj hqj => ?_⟩
          by_cases ej : j = k
          · subst ej; exact .inr ⟨rfl, Nat.le_refl _⟩
          · have := g j (by omega) hqj; omega
        · rw [thM_stay hq h1 hl] at h
          injection h with h
          subst h
          refine ⟨by omega, b, fun j hj hqj => ?_⟩
          by_cases ej : j = k
          · subst ej; omega
          · exact g j (by omega) hqj
    · rw [thM_other hq] at h
      obtain ⟨a, b, g⟩ := ih h
      refine ⟨by omega, b, fun j hj hqj => ?_⟩
      by_cases ej : j = k
      · subst ej; exact absurd hqj hq
      · exact g j (by omega) hqj
theorem thM_none {xs : List Snd} {r : Int} {c : Int × Int} : ∀ {k : Nat}, thM xs r c k = none → ∀ j, j < k → thQ xs r j ≠ c := by
  intro k
  induction k with
  | zero => intro _ j hj; omega
  | succ k ih =>
    intro h j hj e
    by_cases hq : thQ xs r k = c
    · cases h1 : thM xs r c k with
      | none => rw [thM_new hq h1] at h; cases h
      | some m =>
        by_cases hl : lowAt xs k < lowAt xs m
        · rw [thM_less hq h1 hl] at h; cases h
        · rw [thM_stay hq h1 hl] at h; cases h
    · rw [thM_other hq] at h
      by_cases ej : j = k
      · subst ej; exact hq e
      · exact ih h j (by omega) e
theorem thK_iff {xs : List Snd} {r : Int} {i : Nat} : ∀ {n : Nat}, thK xs r i n = true ↔ ∀ k, k < n → thB xs r k i = false := by
  intro n
  induction n with
  | zero => simp [thK]
  | succ n ih =>
    rw [thK, Bool.and_eq_true, ih]
    constructor
    · rintro ⟨a, b⟩ k hk
      by_cases e : k = n
      · subst e; simpa using b
      · exact a k (by omega)
    · intro h
      exact ⟨fun k hk => h k (by omega), by have := h n (by omega); simp [this]⟩
theorem thB_iff {xs : List Snd} {r : Int} {k i : Nat} : thB xs r k i = true ↔ thQ xs r k = thQ xs r i ∧ (lowAt xs k < lowAt xs i ∨ (lowAt xs k = lowAt xs i ∧ k < i)) := by
  unfold thB
  simp only [Bool.and_eq_true, Bool.or_eq_true, decide_eq_true_eq]
theorem thK_best {xs : List Snd} {r : Int} {i n : Nat} (hi : i < n) : thK xs r i n = true ↔ thM xs r (thQ xs r i) n = some i := by
  rw [thK_iff]
  constructor
  · intro h
    cases hm : thM xs r (thQ xs r i) n with
    | none => exact absurd rfl (thM_none hm i hi)
    | some m =>
      obtain ⟨a, b, g⟩ := thM_some hm
      have h1 := g i hi rfl
      have h2 := h m a
      have h3 : ¬ (thB xs r m i = true) := by rw [h2]; decide
      rw [thB_iff] at h3
      have : m = i := by
        rcases Nat.lt_trichotomy m i with q | q | q
        · exact absurd ⟨b, by omega⟩ h3
        · exact q
        · exact absurd ⟨b, by omega⟩ h3
      rw [this]
  · intro h k hk
    obtain ⟨a, b, g⟩ := thM_some h
    cases hb : thB xs r k i with
    | false => rfl
    | true =>
      obtain ⟨q1, q2⟩ := thB_iff.1 hb
      have := g k hk q1
      omega
theorem thTo_mem {xs : List Snd} {r m : Int} : ∀ {n : Nat}, m ∈ thTo xs r n ↔ ∃ i : Nat, i < n ∧ m = (i : Int) ∧ thK xs r i xs.length = true := by
  intro n
  induction n with
  | zero => simp [thTo]
  | succ n ih =>
    rw [thTo]
    split
    · rename_i h
      rw [List.mem_append, ih]
      constructor
      · rintro (⟨i, a, b, g⟩ | h')
        · exact ⟨i, by omega, b, g⟩
        · simp at h'; exact ⟨n, by omega, h', h⟩
      · rintro ⟨i, a, b, g⟩
        by_cases e : i = n
        · subst e; exact .inr (by simp [b])
        · exact .inl ⟨i, by omega, b, g⟩
    · rename_i h
      rw [ih]
      constructor
      · rintro ⟨i, a, b, g⟩; exact ⟨i, by omega, b, g⟩
      · rintro ⟨i, a, b, g⟩
        by_cases e : i = n
        · subst e; exact absurd g h
        · exact ⟨i, by omega, b, g⟩
theorem thTo_lt {xs : List Snd} {r : Int} : ∀ n, (thTo xs r n).Pairwise (· < ·) := by
  intro n
  induction n with
  | zero => exact List.Pairwise.nil
  | succ n ih =>
    rw [thTo]
    split
    · rw [List.pairwise_append]
      refine ⟨ih, by simp, fun a ha b hb => ?_⟩
      obtain ⟨i, h1, h2, -⟩ := thTo_mem.1 ha
      simp at hb
      omega
    · exact ih
theorem thTo_len (xs : List Snd) (r : Int) : ∀ n, (thTo xs r n).length ≤ n := by
  intro n
  induction n with
  | zero => simp [thTo]
  | succ n ih =>
    rw [thTo]
    split
    · rw [List.length_append, List.length_singleton]; omega
    · omega
/-- what was collected, sorted, is the list -/
theorem th_sorted {xs : List Snd} {r : Int} {out : List Int} (hn : out.Nodup) (hm : ∀ m : Int, m ∈ out ↔ ∃ (c : Int × Int) (i : Nat), thM xs r c xs.length = some i ∧ m = (i : Int)) : (out.mergeSort fun x y => decide (x ≤ y)) = thTo xs r xs.length := by
  have hlt := thTo_lt (xs := xs) (r := r) xs.length
  have hnd : (thTo xs r xs.length).Nodup := hlt.imp fun h e => by omega
  have hp : out.Perm (thTo xs r xs.length) := by
    rw [List.perm_ext_iff_of_nodup hn hnd]
    intro m
    rw [hm, thTo_mem]
    constructor
    · rintro ⟨c, i, h1, h2⟩
      obtain ⟨a, b, -⟩ := thM_some h1
      exact ⟨i, a, h2, (thK_best a).2 (by rw [b]; exact h1)⟩
    · rintro ⟨i, a, b, g⟩
      exact ⟨_, i, (thK_best a).1 g, b⟩
  refine List.Perm.eq_of_pairwise (le := fun x y => decide (x ≤ y) = true) ?_ (List.pairwise_mergeSort ?_ ?_ _) (hlt.imp fun h => by simp; omega) ((List.mergeSort_perm _ _).trans hp)
  · intro a b _ _ h1 h2; simp at h1 h2; omega
  · intro a b c h1 h2; simp at h1 h2 ⊢; omega
  · intro a b; simp; omega
def thE (xs : List Snd) (r : Int) : Int := if sndsB xs then (if inB r 1 10000 then 0 else 2) else 1
def thL (xs : List Snd) (r : Int) : List Int := if thE xs r = 0 then thTo xs r xs.length else []
theorem th_ok {xs : List Snd} {r : Int} (h1 : sndsB xs = true) (h2 : inB r 1 10000 = true) : thE xs r = 0 ∧ thL xs r = thTo xs r xs.length := by
  have e : thE xs r = 0 := by simp [thE, h1, h2]
  exact ⟨e, by unfold thL; rw [if_pos e]⟩
theorem th_bad {xs : List Snd} {r : Int} {e : Int} (h : thE xs r = e) (he : e ≠ 0) : thE xs r = e ∧ thL xs r = [] := ⟨h, by unfold thL; rw [h, if_neg he]⟩
end Go.Proofs.Ytbbnnahjghlnoaa
