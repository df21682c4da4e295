/- The verdict on a cell and what is known of cells whose ends have one history; plain. -/
import Derived.Test.YtopggkomkfjbfaaGreatCellB
namespace Go.Proofs.YtopggkomkfjbfaaGreat
set_option linter.unusedSimpArgs false
set_option linter.unusedVariables false

/-- the verdict on a cell, from what is known of it -/
def cvB (x y : Rs) (s : Bool) (lo hi knot dist : Int) : Int :=
  if s then (if x.k = knot ∧ lo ≤ dist ∧ dist ≤ hi then (if (x.hi < dist ∧ dist < y.lo) ∨ (y.hi < dist ∧ dist < x.lo) then 2 else 1) else 0) else 1
def cvI (ds ss : List Int) (src co si hy co' si' hy' : Int) (n : Nat) (knot dist : Int) : Int :=
  cvB (rwAt ds ss src co si hy n) (rwAt ds ss src co' si' hy' n) (sameN ds ss src co si hy co' si' hy' n) (clLo ds ss src co si hy co' si' hy' n) (clHi ds ss src co si hy co' si' hy' n) knot dist
theorem kd_same {ds ss : List Int} {src co hy co' hy' : Int} {s : Int × Bool} (h : kdEv ds ss src co hy s = kdEv ds ss src co' hy' s) : kdNext ds ss src co hy s = kdNext ds ss src co' hy' s := by
  unfold kdEv at h
  unfold kdNext
  cases hi : inn ds s.1 s.2
  · simp
  · simp only [hi, if_true] at h ⊢
    cases h1 : canB ss src co hy (farK (layK s.1 s.2) s.2) <;> cases h2 : canB ss src co' hy' (farK (layK s.1 s.2) s.2) <;> simp [h1, h2] at h ⊢
theorem same_kd {ds ss : List Int} {src co si hy co' si' hy' : Int} (hs : decide (0 < si) = decide (0 < si')) : ∀ n, sameN ds ss src co si hy co' si' hy' n = true → kdAt ds ss src co si hy n = kdAt ds ss src co' si' hy' n := by
  intro n
  induction n with
  | zero => intro _; show (src, decide (0 < si)) = (src, decide (0 < si')); rw [hs]
  | succ n ih =>
    intro h
    rw [sameN, Bool.and_eq_true] at h
    have e := ih h.1
    have g := of_decide_eq_true h.2
    show kdNext ds ss src co hy (kdAt ds ss src co si hy n) = kdNext ds ss src co' hy' (kdAt ds ss src co' si' hy' n)
    rw [← e] at g ⊢
    exact kd_same g
theorem same_k {ds ss : List Int} {src co si hy co' si' hy' : Int} {n : Nat} (hs : decide (0 < si) = decide (0 < si')) (h : sameN ds ss src co si hy co' si' hy' n = true) : (rwAt ds ss src co si hy n).k = (rwAt ds ss src co' si' hy' n).k := by
  show (kdAt ds ss src co si hy n).1 = (kdAt ds ss src co' si' hy' n).1
  rw [same_kd hs n h]
theorem same_comm (ds ss : List Int) (src co si hy co' si' hy' : Int) : ∀ n, sameN ds ss src co si hy co' si' hy' n = sameN ds ss src co' si' hy' co si hy n := by
  intro n
  induction n with
  | zero => rfl
  | succ n ih => rw [sameN, sameN, ih]; congr 1; exact decide_eq_decide.2 eq_comm
theorem clLo_comm (ds ss : List Int) (src co si hy co' si' hy' : Int) (n : Nat) : clLo ds ss src co si hy co' si' hy' n = clLo ds ss src co' si' hy' co si hy n :=
  sumN_congr n fun i _ => Int.min_comm _ _
theorem clHi_comm (ds ss : List Int) (src co si hy co' si' hy' : Int) (n : Nat) : clHi ds ss src co si hy co' si' hy' n = clHi ds ss src co' si' hy' co si hy n :=
  sumN_congr n fun i _ => Int.max_comm _ _
theorem cv_comm {ds ss : List Int} {src co si hy co' si' hy' : Int} (hs : decide (0 < si) = decide (0 < si')) (n : Nat) (knot dist : Int) : cvI ds ss src co si hy co' si' hy' n knot dist = cvI ds ss src co' si' hy' co si hy n knot dist := by
  unfold cvI
  rw [same_comm ds ss src co' si' hy' co si hy n, clLo_comm ds ss src co' si' hy' co si hy n, clHi_comm ds ss src co' si' hy' co si hy n]
  cases h : sameN ds ss src co si hy co' si' hy' n
  · rfl
  · have e := same_k hs h
    unfold cvB
    rw [e, if_pos rfl, if_pos rfl]
    split
    · congr 1
      exact propext or_comm
    · rfl
theorem end_in {ds ss : List Int} {src co si hy co' si' hy' : Int} (n : Nat) :
    clLo ds ss src co si hy co' si' hy' n ≤ (rwAt ds ss src co si hy n).lo ∧ (rwAt ds ss src co si hy n).hi ≤ clHi ds ss src co si hy co' si' hy' n ∧ clLo ds ss src co si hy co' si' hy' n ≤ (rwAt ds ss src co' si' hy' n).lo ∧ (rwAt ds ss src co' si' hy' n).hi ≤ clHi ds ss src co si hy co' si' hy' n :=
  ⟨sumN_le n fun i _ => Int.min_le_left _ _, sumN_le n fun i _ => Int.le_max_left _ _, sumN_le n fun i _ => Int.min_le_right _ _, sumN_le n fun i _ => Int.le_max_right _ _⟩
theorem cv_two {x y : Rs} {s : Bool} {lo hi knot dist : Int} (h : cvB x y s lo hi knot dist = 2) : x.k = knot ∧ ((x.hi < dist ∧ dist < y.lo) ∨ (y.hi < dist ∧ dist < x.lo)) := by
  unfold cvB at h
  cases s
  · simp at h
  · simp only [if_true] at h
    split at h
    · rename_i g
      split at h
      · rename_i g2; exact ⟨g.1, g2⟩
      · exact absurd h (by decide)
    · exact absurd h (by decide)
theorem cv_bd (x y : Rs) (s : Bool) (lo hi knot dist : Int) : 0 ≤ cvB x y s lo hi knot dist ∧ cvB x y s lo hi knot dist ≤ 2 := by
  unfold cvB; repeat' split
  all_goals omega
end Go.Proofs.YtopggkomkfjbfaaGreat
