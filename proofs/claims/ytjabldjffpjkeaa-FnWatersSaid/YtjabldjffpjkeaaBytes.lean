/- A slice of bytes that came in. -/
import Derived.Test.YtjabldjffpjkeaaRow
import Derived.Test.YtjabldjffpjkeaaSrc
namespace Go.Proofs.Ytjabldjffpjkeaa
set_option maxRecDepth 100000
set_option linter.unusedSimpArgs false
set_option linter.unusedVariables false
open Go.ChangeShapes Go.WideShapes Go.ChangeAt Go.RowKit Go.Joins

section
variable {H : Type} {enc : TypeId × Value → H}
theorem bounds_u8 {n : Int} (h : (Lit.int .u8 n).wf = true) : 0 ≤ n ∧ n ≤ 255 := by
  simp [Lit.wf, IntKind.min, IntKind.max, IntKind.signed, IntKind.bits] at h
  omega
theorem cells_at {w : World} {a : Addr} {zs : List Int} (h : ∀ i, i < zs.length → w.cell? (a.add i) = some (.int .u8 (zs.getD i 0))) (hz : 0 < zs.length) :
    ∃ b off, a = ⟨b, off, none⟩ ∧ ∀ i, i < zs.length → w.cell? ⟨b, off + i, none⟩ = some (.int .u8 (zs.getD i 0)) := by
  obtain ⟨b, off, sub⟩ := a
  cases sub with
  | none =>
    refine ⟨b, off, rfl, fun i hi => ?_⟩
    have hh := h i hi
    rcases i with _ | i
    · simpa [Addr.add] using hh
    · simpa [Addr.add] using hh
  | some s =>
    exfalso
    have := h 0 hz
    simp [Addr.add, World.cell?] at this
    split at this <;> cases this
theorem open_bytes {W : World} {n : Nat} {v : Value} {y : DataW H × List MemPlace} (h : DataW.trod enc Try.prog W 0 (fun _ => true) true n 22 [v] = some y) :
    ∃ A c xs, v = .slice A xs.length c ∧ BytesAt W A c xs := by
  rcases open_ints Try.underlying22 Try.underlying5 (by kernel_rfl) h with ⟨hcs, _⟩ | ⟨a, l, c, zs, hcs, _, hl, hm, hz, _, hcell, hwz⟩
  · simp at hcs
    subst hcs
    exact ⟨none, 0, [], rfl, ⟨by simp, by simp, .inl rfl⟩⟩
  · simp at hcs
    subst hcs
    simp at hz
    have hwf : ∀ x ∈ zs.take l, 0 ≤ x ∧ x ≤ 255 := fun x hx => bounds_u8 (hwz x (List.mem_of_mem_take hx))
    have hlen : (zs.take l).length = l := by rw [List.length_take]; omega
    rcases Nat.eq_zero_or_pos l with h0 | hp
    · subst h0
      exact ⟨some a, c, [], rfl, ⟨by simp, by simpa [maxLen] using hm, .inl rfl⟩⟩
    · obtain ⟨b, off, rfl, hc⟩ := cells_at hcell (by omega)
      refine ⟨_, c, zs.take l, by rw [hlen], ⟨by omega, by simpa [maxLen] using hm, .inr ⟨b, off, rfl, ?_, fun i x hx => ?_⟩⟩⟩
      · exact World.block_lt_of_cell? W _ (hc 0 (by omega))
      · have hil : i < l := by have := (List.getElem?_eq_some_iff.1 hx).1; omega
        have hb := hwf x (List.mem_of_getElem? hx)
        refine ⟨?_, hb⟩
        rw [hc i (by omega)]
        rw [List.getElem?_take, if_pos hil] at hx
        simp [List.getD, hx]
theorem open_code {W : World} {base : Nat} {v : Value} {d : DataW H} {p : List MemPlace} (hv : Value.okWide Try.prog W .any base 22 v) (h : DataW.Trod enc Try.prog W 0 (fun _ => true) true 22 v d p) :
    ∃ A c xs, v = .slice A xs.length c ∧ BytesAt W A c xs := by
  obtain ⟨A, len, cap, rfl⟩ := okWide_slice Try.underlying22 hv
  obtain ⟨fuel, hf⟩ := h
  exact open_bytes (by simpa [Value.cells] using hf)
end
end Go.Proofs.Ytjabldjffpjkeaa
