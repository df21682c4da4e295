/- Contracts of the small functions. -/
import Derived.Test.YtakkhnihcfhcdaaRows
import Derived.WalkKit
import Derived.WalkSpells
import Derived.WalkLawsBesides
import Derived.Lib.Hide
import Derived.Handy
namespace Go.Proofs.Ytakkhnihcfhcdaa
set_option linter.unusedSimpArgs false
set_option linter.unusedVariables false
open Go.RowKit

/-- behind a call that makes memory: the named blocks of this function, and all that was there before it, read as before -/
theorem bkeep {w W w1 : World} (bs : List Nat) (hn : ∀ b ∈ bs, b < W.heap.size) (hB : Below w.heap.size w W) (hb : Below W.heap.size W w1) :
    Below w.heap.size w w1 ∧ W.heap.size ≤ w1.heap.size ∧
    (∀ b o, b ∈ bs → w1.cell? ⟨b, o, none⟩ = W.cell? ⟨b, o, none⟩) ∧
    (∀ b o, b ∈ bs → w1.frozen? ⟨b, o, none⟩ = W.frozen? ⟨b, o, none⟩) ∧
    (∀ b o, b < w.heap.size → w1.cell? ⟨b, o, none⟩ = w.cell? ⟨b, o, none⟩) ∧
    (∀ b, b ∈ bs → b < w1.heap.size) ∧ (∀ b, b ∈ bs → ¬ b = w1.heap.size) ∧ (∀ b, b < w.heap.size → b < w1.heap.size) := by
  have hs := hb.size
  have h0 := hB.size
  have hB1 : Below w.heap.size w w1 := hB.trans (hb.mono (by omega))
  exact ⟨hB1, by omega, fun b o h => hb.cell (p := ⟨_, o, none⟩) (hn b h), fun b o h => hb.frozen (p := ⟨_, o, none⟩) (hn b h), fun b o h => hB1.cell (p := ⟨_, o, none⟩) (by show b < _; omega),
    fun b h => by have := hn b h; omega, fun b h => by have := hn b h; omega, fun b h => by omega⟩

theorem bold {w w1 : World} (hb : Below w.heap.size w w1) : ∀ b o, b < w.heap.size → w1.cell? ⟨b, o, none⟩ = w.cell? ⟨b, o, none⟩ := fun b o h => hb.cell (p := ⟨b, o, none⟩) h
theorem bnew {w w1 : World} (hb : Below w.heap.size w w1) : ∀ b, b < w.heap.size → b < w1.heap.size := fun b h => by have := hb.size; omega

theorem bdrewN {B : Nat} {a w : World} (h : Below B a w) (n : Nat) : Below B a (w.drewN n) := ⟨h.os, h.tape, h.output, h.size, h.block⟩

theorem ret_bool {a b : Bool} (h : a = b) : Ending.returned (.bool a) = .returned (.bool b) := by rw [h]
theorem ret_int {k : IntKind} {a b : Int} (h : a = b) : Ending.returned (.int k a) = .returned (.int k b) := by rw [h]

def inB (x lo hi : Int) : Bool := decide (lo ≤ x) && decide (x ≤ hi)

set_option maxHeartbeats 400000 in
theorem within_any (x lo hi : Int) (w : World) :
    Calls Try.prog 53 #[.int .i64 x, .int .i64 lo, .int .i64 hi] w fun e w' => e = .returned (.bool (inB x lo hi)) ∧ w = w' := by
  go_enter Try.func53, Try.ntmps53
  go_wp2
  all_goals (go_ret; exact ⟨by simp [inB]; omega, rfl⟩)

set_option maxHeartbeats 400000 in
theorem l01In_any (x lo hi : Int) (w : World) :
    Calls Try.prog 51 #[.int .i64 x, .int .i64 lo, .int .i64 hi] w fun e w' => e = .returned (.bool (inB x lo hi)) ∧ w = w' := by
  go_enter Try.func51, Try.ntmps51
  go_wp2
  all_goals (go_ret; exact ⟨by simp [inB]; omega, rfl⟩)

abbrev sndV (a b c d : Int) : Value := .agg #[.int .i64 a, .int .i64 b, .int .i64 c, .int .i64 d]
@[go_sem] theorem sndV_def (a b c d : Int) : sndV a b c d = .agg #[.int .i64 a, .int .i64 b, .int .i64 c, .int .i64 d] := rfl

set_option maxHeartbeats 400000 in
theorem toSounding_any (a b c d : Int) (w : World) :
    Calls Try.prog 10 #[sndV a b c d] w fun e w' => e = .returned (sndV a b c d) ∧ Below w.heap.size w w' := by
  go_enter Try.func10, Try.ntmps10
  go_wp2
  go_returns
  refine ⟨rfl, ?_⟩
  go_grown

def sndB (a b c d : Int) : Bool := inB a 0 10000 && inB b 0 10000 && inB c (-2000) 1000000 && inB d 0 5000

set_option maxHeartbeats 400000 in
theorem l21Is_any (a b c d : Int) (w : World) :
    Calls Try.prog 38 #[sndV a b c d] w fun e w' => e = .returned (.bool (sndB a b c d)) ∧ Below w.heap.size w w' := by
  go_enter Try.func38, Try.ntmps38
  go_wp2_with (go_at_call 51; refine (l01In_any _ _ _ _).mono ?_; rintro e w' ⟨rfl, rfl⟩)
  all_goals (go_returns; exact ⟨by simp [sndB, *], by go_grown⟩)

abbrev ivV (a b : Int) : Value := .agg #[.int .i64 a, .int .i64 b]
@[go_sem] theorem ivV_def (a b : Int) : ivV a b = .agg #[.int .i64 a, .int .i64 b] := rfl

@[go_sem] theorem ivLow (a b : Int) (w : World) : (Instr.field 25 (.agg #[.int .i64 a, .int .i64 b]) 0).run Try.prog w = .ok (.int .i64 a) w := by kernel_rfl
@[go_sem] theorem ivHigh (a b : Int) (w : World) : (Instr.field 25 (.agg #[.int .i64 a, .int .i64 b]) 1).run Try.prog w = .ok (.int .i64 b) w := by kernel_rfl

set_option maxHeartbeats 400000 in
theorem eqInterval_any (a b c d : Int) (w : World) :
    Calls Try.prog 12 #[ivV a b, ivV c d] w fun e w' => e = .returned (.bool (decide (a = c) && decide (b = d))) ∧ Below w.heap.size w w' := by
  go_enter Try.func12, Try.ntmps12
  go_wp2
  all_goals (go_returns; exact ⟨by simp_all, by go_grown⟩)

set_option maxHeartbeats 400000 in
theorem l21Bounds_any (a b c d : Int) (w : World) (hc : -2000 ≤ c) (hc2 : c ≤ 1000000) (hd : 0 ≤ d) (hd2 : d ≤ 5000) :
    Calls Try.prog 39 #[sndV a b c d] w fun e w' => e = .returned (ivV (c - d) (c + d)) ∧ Below w.heap.size w w' := by
  go_enter Try.func39, Try.ntmps39
  go_wp2
  go_returns
  exact ⟨rfl, by go_grown⟩

set_option maxHeartbeats 400000 in
theorem bounds_any (a b c d : Int) (w : World) (hc : -2000 ≤ c) (hc2 : c ≤ 1000000) (hd : 0 ≤ d) (hd2 : d ≤ 5000) :
    Calls Try.prog 41 #[sndV a b c d] w fun e w' => e = .returned (ivV (c - d) (c + d)) ∧ Below w.heap.size w w' := by
  go_enter Try.func41, Try.ntmps41
  go_wp2
  go_returns
  exact ⟨rfl, by go_grown⟩

theorem sndB_bd {a b c d : Int} (h : sndB a b c d = true) : -2000 ≤ c ∧ c ≤ 1000000 ∧ 0 ≤ d ∧ d ≤ 5000 := by
  simp [sndB, inB] at h; omega

def depthBoundsL (a b c d : Int) : Int := if sndB a b c d then c - d else 0
def depthBoundsH (a b c d : Int) : Int := if sndB a b c d then c + d else 0
def depthBoundsE (a b c d : Int) : Int := if sndB a b c d then 0 else 1

set_option maxHeartbeats 400000 in
theorem specDepthBounds_any (a b c d : Int) (w : World) :
    Calls Try.prog 9 #[sndV a b c d] w fun e w' => e = .returned (.tuple #[ivV (depthBoundsL a b c d) (depthBoundsH a b c d), .int .i64 (depthBoundsE a b c d)]) ∧ Below w.heap.size w w' := by
  by_cases h : sndB a b c d = true
  · obtain ⟨h1, h2, h3, h4⟩ := sndB_bd h
    go_enter Try.func9, Try.ntmps9
    go_wp2_with (first
      | (go_at_call 38; refine (l21Is_any _ _ _ _ _).mono ?_; rintro e w1 ⟨rfl, hb1⟩; obtain ⟨B1, hz1, q1, s1, t1, x1, y1, z1⟩ := bkeep (w := w) [w.heap.size, w.heap.size + 1] (by first | (simp; done) | (simp; omega)) (by first | (go_grown; done) | exact bdrewN (by go_grown) _) hb1; (try simp at hz1); clear hb1)
      | (go_at_call 39; refine (l21Bounds_any _ _ _ _ _ h1 h2 h3 h4).mono ?_; rintro e w2 ⟨rfl, hb2⟩; obtain ⟨B2, hz2, q2, s2, t2, x2, y2, z2⟩ := bkeep (w := w) [w.heap.size, w.heap.size + 1] (by first | (simp; done) | (simp; omega)) (by first | (go_grown; done) | exact bdrewN (by go_grown) _) hb2; (try simp at hz2); clear hb2))
    refine bodyPost_ret (by simp [results, Try.results9, go_sem, *] <;> rfl) rfl ?_
    exact ⟨by simp [depthBoundsL, depthBoundsH, depthBoundsE, h], by go_grown⟩
  · go_enter Try.func9, Try.ntmps9
    go_wp2_with (go_at_call 38; refine (l21Is_any _ _ _ _ _).mono ?_; rintro e w1 ⟨rfl, hb1⟩; obtain ⟨B1, hz1, q1, s1, t1, x1, y1, z1⟩ := bkeep (w := w) [w.heap.size, w.heap.size + 1] (by first | (simp; done) | (simp; omega)) (by first | (go_grown; done) | exact bdrewN (by go_grown) _) hb1; (try simp at hz1); clear hb1)
    refine bodyPost_ret (by simp [results, Try.results9, go_sem, *] <;> rfl) rfl ?_
    exact ⟨by simp [depthBoundsL, depthBoundsH, depthBoundsE, h], by go_grown⟩
end Go.Proofs.Ytakkhnihcfhcdaa
