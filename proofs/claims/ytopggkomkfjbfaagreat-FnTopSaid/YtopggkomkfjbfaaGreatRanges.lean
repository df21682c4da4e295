/- RangesOf, by the program and by the reference. -/
import Derived.Test.YtopggkomkfjbfaaGreatTraceRay
namespace Go.Proofs.YtopggkomkfjbfaaGreat
set_option linter.unusedSimpArgs false
set_option linter.unusedVariables false
open Go.RowKit

def rgCell (x : Rs) : List Value := ivCell (x.lo, x.hi)
/-- the ranges behind the first k events -/
def rgTo (ds ss : List Int) (src co hy : Int) (x : Rs) (k : Nat) : List (List Value) := (trS ds ss src co hy x k).map rgCell
theorem rgTo_len (ds ss : List Int) (src co hy : Int) (x : Rs) (k : Nat) : (rgTo ds ss src co hy x k).length = k := by rw [rgTo, List.length_map, trS_len]
theorem rgTo_next (ds ss : List Int) (src co hy : Int) (x : Rs) (k : Nat) : rgTo ds ss src co hy x (k + 1) = rgTo ds ss src co hy x k ++ [ivCell ((rsAt ds ss src co hy x (k + 1)).lo, (rsAt ds ss src co hy x (k + 1)).hi)] := by
  rw [rgTo, trS, List.map_append]; rfl
@[irreducible] def rgL (ds ss : List Int) (src co si hy n : Int) : List (Int × Int) := if trCo ds ss src co si hy n = 0 then (trS ds ss src co hy (rs0 src si) n.toNat).map (fun x => (x.lo, x.hi)) else []
theorem rgL_ok {ds ss : List Int} {src co si hy : Int} {m : Nat} (h : trCo ds ss src co si hy m = 0) : (rgL ds ss src co si hy m).map ivCell = rgTo ds ss src co hy (rs0 src si) m := by
  unfold rgL; rw [if_pos h, Int.toNat_natCast, rgTo, List.map_map]; rfl
theorem rgL_no {ds ss : List Int} {src co si hy n : Int} (h : trCo ds ss src co si hy n ≠ 0) : rgL ds ss src co si hy n = [] := by unfold rgL; rw [if_neg h]
theorem rgL_len0 {ds ss : List Int} {src co si hy : Int} {m : Nat} (h : trCo ds ss src co si hy m = 0) : (rgL ds ss src co si hy m).length = m := by
  unfold rgL; rw [if_pos h, Int.toNat_natCast, List.length_map, trS_len]
theorem rgL_len (ds ss : List Int) (src co si hy n : Int) : (rgL ds ss src co si hy n).length ≤ 100 := by
  by_cases h : trCo ds ss src co si hy n = 0
  · obtain ⟨-, m, rfl, hm, -⟩ := trCo_zero h
    rw [rgL_len0 h]; exact hm
  · rw [rgL_no h]; simp
/-- the cells of the k-th state -/
theorem state_cells {w : World} {A : Option Addr} {c m k : Nat} {ds ss : List Int} {src co hy : Int} {x : Rs} (h : KAt w A c 4 ((trS ds ss src co hy x m).map rsCell)) (hk : k < m) :
    ∃ b off, A = some ⟨b, off, none⟩ ∧ b < w.heap.size ∧ w.cell? ⟨b, off + k * 4, none⟩ = some (.int .i64 (rsAt ds ss src co hy x (k + 1)).k) ∧ w.cell? ⟨b, off + k * 4 + 1, none⟩ = some (.bool (rsAt ds ss src co hy x (k + 1)).d) ∧
      w.cell? ⟨b, off + k * 4 + 2, none⟩ = some (.int .i64 (rsAt ds ss src co hy x (k + 1)).lo) ∧ w.cell? ⟨b, off + k * 4 + 3, none⟩ = some (.int .i64 (rsAt ds ss src co hy x (k + 1)).hi) := by
  obtain ⟨b, off, e, rfl, hb, he, hc⟩ := h.at_ (i := k) (by rw [List.length_map, trS_len]; omega)
  rw [List.getElem?_map, trS_get _ _ _ _ _ _ _ _ hk] at he
  simp only [Option.map_some, Option.some.injEq] at he
  subst he
  exact ⟨b, off, rfl, hb, by have := hc 0 _ rfl; simpa using this, hc 1 _ rfl, hc 2 _ rfl, hc 3 _ rfl⟩

end Go.Proofs.YtopggkomkfjbfaaGreat
