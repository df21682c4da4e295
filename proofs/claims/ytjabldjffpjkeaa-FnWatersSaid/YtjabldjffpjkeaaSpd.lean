/- Numbers at indices, and bounds of products and quotients (a copy for seats without depths). -/
import Derived.Test.YtjabldjffpjkeaaNum
import Derived.Test.YtjabldjffpjkeaaInts
namespace Go.Proofs.Ytjabldjffpjkeaa
set_option linter.unusedSimpArgs false
set_option linter.unusedVariables false
open Go.RowKit

/-- the number at an index -/
def spd (xs : List Int) (k : Int) : Int := xs[k.toNat]?.getD 0
theorem spd_at {xs : List Int} {k : Nat} {x : Int} (h : xs[k]? = some x) : spd xs k = x := by simp [spd, h]
theorem spd_some {xs : List Int} {k : Int} (h0 : 0 ≤ k) (h1 : k < xs.length) : xs[k.toNat]? = some (spd xs k) := by
  have : k.toNat < xs.length := by omega
  simp [spd, List.getElem?_eq_getElem this]
theorem spd_get {xs : List Int} {k : Nat} (h1 : k < xs.length) : xs[k]? = some (spd xs k) := by
  have := spd_some (xs := xs) (k := (k : Int)) (by omega) (by omega)
  simpa using this
theorem IntsAt.spd {w : World} {A : Option Addr} {c : Nat} {xs : List Int} (h : IntsAt w A c xs) (h0 : 0 < xs.length) :
    ∃ b off, A = some ⟨b, off, none⟩ ∧ b < w.heap.size ∧ ∀ k : Nat, k < xs.length → w.cell? ⟨b, off + k, none⟩ = some (.int .i64 (spd xs k)) := by
  obtain ⟨b, off, x, rfl, hb, hx, hc⟩ := h.at_ (k := 0) h0
  refine ⟨b, off, rfl, hb, fun k hk => ?_⟩
  obtain ⟨b', off', x', hA, hb', hx', hc'⟩ := h.at_ (k := k) hk
  simp only [Option.some.injEq, Addr.mk.injEq, and_true] at hA
  obtain ⟨rfl, rfl⟩ := hA
  rw [spd_at hx']; exact hc'
theorem mul_bd {a b A B : Int} (h1 : -A ≤ a) (h2 : a ≤ A) (h3 : 0 ≤ b) (h4 : b ≤ B) : -(A * B) ≤ a * b ∧ a * b ≤ A * B := by
  have hA : 0 ≤ A := by omega
  have e1 := Int.mul_le_mul_of_nonneg_right h2 h3
  have e2 := Int.mul_le_mul_of_nonneg_left h4 hA
  have e3 := Int.mul_le_mul_of_nonneg_right h1 h3
  rw [Int.neg_mul] at e3
  omega
theorem div_bd {a b M : Int} (hb : 0 < b) (h1 : -M ≤ a) (h2 : a ≤ M) : -M ≤ a / b ∧ a / b ≤ M := by
  have hM : 0 ≤ M := by omega
  have h5 := Int.mul_le_mul_of_nonneg_right (show (1 : Int) ≤ b by omega) hM
  constructor
  · rw [Int.le_ediv_iff_mul_le hb, Int.neg_mul, Int.mul_comm]; omega
  · have : a / b < M + 1 := by rw [Int.ediv_lt_iff_lt_mul hb, Int.add_mul, Int.mul_comm M b]; omega
    omega
theorem genS {P S : World → Prop} {w0 : World} (h0 : S w0) (h : ∀ w, S w → P w) : P w0 := h w0 h0
end Go.Proofs.Ytjabldjffpjkeaa
