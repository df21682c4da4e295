/- What a valid profile is, by the program and by the reference. -/
import Derived.Test.YtbbnnahjghlnoaaInts
namespace Go.Proofs.Ytbbnnahjghlnoaa
set_option linter.unusedSimpArgs false
set_option linter.unusedVariables false
open Go.RowKit

theorem inB_bd {x lo hi : Int} (h : inB x lo hi = true) : lo ≤ x ∧ x ≤ hi := by simpa [inB] using h

/-- element i lies in 0 .. n - 1 and is greater than the one before it -/
def okAt (xs : List Int) (n : Int) (i : Nat) : Bool :=
  match xs[i]? with
  | some x => decide (0 ≤ x) && decide (x < n) && (match i with | 0 => true | j + 1 => match xs[j]? with | some y => decide (y < x) | none => true)
  | none => true
def risB (xs : List Int) (n : Int) : Bool := (List.range xs.length).all (okAt xs n)

theorem okAt_zero {xs : List Int} {n x : Int} (h : xs[0]? = some x) : okAt xs n 0 = (decide (0 ≤ x) && decide (x < n)) := by
  unfold okAt; rw [h]; simp
theorem okAt_succ {xs : List Int} {n x y : Int} {j : Nat} (h : xs[j + 1]? = some x) (h' : xs[j]? = some y) : okAt xs n (j + 1) = (decide (0 ≤ x) && decide (x < n) && decide (y < x)) := by
  simp only [okAt, h, h']
theorem ris_stop {xs : List Int} {n : Int} {k : Nat} (hk : k < xs.length) (h : okAt xs n k = false) : risB xs n = false := by
  unfold risB
  rw [List.all_eq_false]
  exact ⟨k, List.mem_range.2 hk, by simp [h]⟩
theorem ris_done {xs : List Int} {n : Int} (h : ∀ i, i < xs.length → okAt xs n i = true) : risB xs n = true := by
  unfold risB
  rw [List.all_eq_true]
  exact fun i hi => h i (List.mem_range.1 hi)
theorem ris_at {xs : List Int} {n : Int} (h : risB xs n = true) {i : Nat} (hi : i < xs.length) : okAt xs n i = true := by
  unfold risB at h
  exact List.all_eq_true.1 h i (List.mem_range.2 hi)
theorem ris_in {xs : List Int} {n : Int} (h : risB xs n = true) {i : Nat} {x : Int} (hx : xs[i]? = some x) : 0 ≤ x ∧ x < n := by
  have := ris_at h (List.getElem?_eq_some_iff.1 hx).1
  unfold okAt at this
  rw [hx] at this
  simp at this
  omega
theorem ris_lt {xs : List Int} {n : Int} (h : risB xs n = true) {i : Nat} {x y : Int} (hx : xs[i]? = some x) (hy : xs[i + 1]? = some y) : x < y := by
  have := ris_at h (List.getElem?_eq_some_iff.1 hy).1
  rw [okAt_succ hy hx] at this
  simp at this
  exact this.2



/-- a valid profile -/
def profB (ds ss : List Int) : Bool :=
  decide (2 ≤ ds.length) && decide (ds.length ≤ 12) && decide (ss.length = ds.length) && risB ds 1000001 && decide (ds[0]? = some 0) && ss.all (inB · 1300000 1700000)



abbrev profV (A1 : Option Addr) (n1 c1 : Nat) (A2 : Option Addr) (n2 c2 : Nat) : Value := .agg #[.slice A1 n1 c1, .slice A2 n2 c2]

theorem at_zero {w : World} {A : Option Addr} {c : Nat} {xs : List Int} (h : IntsAt w A c xs) (hk : 0 < xs.length) :
    ∃ b off x, A = some ⟨b, off, none⟩ ∧ b < w.heap.size ∧ xs[0]? = some x ∧ w.cell? ⟨b, off, none⟩ = some (.int .i64 x) := by
  obtain ⟨b, off, x, h1, h2, h3, h4⟩ := h.at_ hk
  exact ⟨b, off, x, h1, h2, h3, by simpa using h4⟩

end Go.Proofs.Ytbbnnahjghlnoaa
