/- Contracts of the small functions. -/
import Derived.Test.YtjabldjffpjkeaaRows
import Derived.WalkKit
import Derived.WalkSpells
import Derived.WalkLawsBesides
import Derived.Lib.Hide
import Derived.Handy
namespace Go.Proofs.Ytjabldjffpjkeaa
set_option linter.unusedSimpArgs false
set_option linter.unusedVariables false
open Go.RowKit

/-- behind a call that makes memory: the named blocks of this function, and all that was there before it, read as before -/
theorem bkeep {w W w1 : World} (bs : List Nat) (hn : ∀ b ∈ bs, b < W.heap.size) (hB : Below w.heap.size w W) (hb : Below W.heap.size W w1) :
    Below w.heap.size w w1 ∧ W.heap.size ≤ w1.heap.size ∧
    (∀ b o, b ∈ bs → w1.cell? ⟨b, o, none⟩ = W.cell? ⟨b, o, none⟩) ∧
    (∀ b o, b ∈ bs → w1.frozen? ⟨b, o, none⟩ = W.frozen? ⟨b, o, none⟩) ∧
    (∀ b o, b < w.heap.size → w1.cell? ⟨b, o, none⟩ = w.cell? ⟨b, o, none⟩) ∧
    (∀ b, b ∈ bs → b < w1.heap.size) ∧ (∀ b, b ∈ bs → ¬ b = w1.heap.size) ∧ (∀ b, b < w.heap.size → b < w1.heap.size) := by
  have hs := hb.size
  have h0 := hB.size
  have hB1 : Below w.heap.size w w1 := hB.trans (hb.mono (by omega))
  exact ⟨hB1, by omega, fun b o h => hb.cell (p := ⟨_, o, none⟩) (hn b h), fun b o h => hb.frozen (p := ⟨_, o, none⟩) (hn b h), fun b o h => hB1.cell (p := ⟨_, o, none⟩) (by show b < _; omega),
    fun b h => by have := hn b h; omega, fun b h => by have := hn b h; omega, fun b h => by omega⟩

theorem bold {w w1 : World} (hb : Below w.heap.size w w1) : ∀ b o, b < w.heap.size → w1.cell? ⟨b, o, none⟩ = w.cell? ⟨b, o, none⟩ := fun b o h => hb.cell (p := ⟨b, o, none⟩) h
theorem bnew {w w1 : World} (hb : Below w.heap.size w w1) : ∀ b, b < w.heap.size → b < w1.heap.size := fun b h => by have := hb.size; omega

theorem bdrewN {B : Nat} {a w : World} (h : Below B a w) (n : Nat) : Below B a (w.drewN n) := ⟨h.os, h.tape, h.output, h.size, h.block⟩

theorem sq_bd {a m : Int} (h1 : -m ≤ a) (h2 : a ≤ m) : 0 ≤ a * a ∧ a * a ≤ m * m := by
  have hm : 0 ≤ m := by omega
  rcases Int.le_total 0 a with h | h
  · exact ⟨Int.mul_nonneg h h, Int.mul_le_mul h2 h2 h hm⟩
  · have e : a * a = (-a) * (-a) := by rw [Int.neg_mul_neg]
    rw [e]
    exact ⟨Int.mul_nonneg (by omega) (by omega), Int.mul_le_mul (by omega) (by omega) (by omega) hm⟩

theorem ret_bool {a b : Bool} (h : a = b) : Ending.returned (.bool a) = .returned (.bool b) := by rw [h]
theorem ret_int {k : IntKind} {a b : Int} (h : a = b) : Ending.returned (.int k a) = .returned (.int k b) := by rw [h]

def inB (x lo hi : Int) : Bool := decide (lo ≤ x) && decide (x ≤ hi)

set_option maxHeartbeats 400000 in
theorem within_any (x lo hi : Int) (w : World) :
    Calls Try.prog 51 #[.int .i64 x, .int .i64 lo, .int .i64 hi] w fun e w' => e = .returned (.bool (inB x lo hi)) ∧ w = w' := by
  go_enter Try.func51, Try.ntmps51
  go_wp2
  all_goals (go_ret; exact ⟨by simp [inB]; omega, rfl⟩)

set_option maxHeartbeats 400000 in
theorem l01In_any (x lo hi : Int) (w : World) :
    Calls Try.prog 56 #[.int .i64 x, .int .i64 lo, .int .i64 hi] w fun e w' => e = .returned (.bool (inB x lo hi)) ∧ w = w' := by
  go_enter Try.func56, Try.ntmps56
  go_wp2
  all_goals (go_ret; exact ⟨by simp [inB]; omega, rfl⟩)

abbrev ivV (a b : Int) : Value := .agg #[.int .i64 a, .int .i64 b]
@[go_sem] theorem ivV_def (a b : Int) : ivV a b = .agg #[.int .i64 a, .int .i64 b] := rfl

@[go_sem] theorem ivLow (a b : Int) (w : World) : (Instr.field 35 (.agg #[.int .i64 a, .int .i64 b]) 0).run Try.prog w = .ok (.int .i64 a) w := by kernel_rfl
@[go_sem] theorem ivHigh (a b : Int) (w : World) : (Instr.field 35 (.agg #[.int .i64 a, .int .i64 b]) 1).run Try.prog w = .ok (.int .i64 b) w := by kernel_rfl


end Go.Proofs.Ytjabldjffpjkeaa
