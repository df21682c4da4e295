/- Profiles marked and held: calls that write given rows and may make memory. -/
import Derived.Test.YtjabldjffpjkeaaProf2
namespace Go.Proofs.Ytjabldjffpjkeaa
set_option linter.unusedSimpArgs false
set_option linter.unusedVariables false
open Go.RowKit

/-- of what was there only the blocks from lo up to hi have changed; there may be more blocks -/
structure ChgB (lo hi : Nat) (w w1 : World) : Prop where
  os : w1.os = w.os
  tape : w1.tape = w.tape
  output : w1.output = w.output
  size : w.heap.size ≤ w1.heap.size
  block : ∀ b, b < w.heap.size → b < lo ∨ hi ≤ b → w1.heap[b]? = w.heap[b]?

section
variable {w w1 w2 : World} {lo hi lo' hi' B : Nat} {A A1 A2 : Option Addr} {c c1 c2 : Nat} {xs ds ss : List Int}
theorem Chg.toB (h : Chg lo hi w w1) : ChgB lo hi w w1 := ⟨h.os, h.tape, h.output, by rw [h.size]; exact Nat.le_refl _, fun b _ hb => h.block b hb⟩
theorem ChgB.trans (h : ChgB lo hi w w1) (k : ChgB lo hi w1 w2) : ChgB lo hi w w2 :=
  ⟨k.os.trans h.os, k.tape.trans h.tape, k.output.trans h.output, Nat.le_trans h.size k.size, fun b hb hr => (k.block b (Nat.lt_of_lt_of_le hb h.size) hr).trans (h.block b hb hr)⟩
theorem ChgB.mono (h : ChgB lo hi w w1) (h1 : lo' ≤ lo) (h2 : hi ≤ hi') : ChgB lo' hi' w w1 := ⟨h.os, h.tape, h.output, h.size, fun b hb hr => h.block b hb (by omega)⟩
theorem ChgB.below (h : ChgB lo hi w w1) (hB : B ≤ lo) (hs : B ≤ w.heap.size) : Below B w w1 := ⟨h.os, h.tape, h.output, h.size, fun k hk => h.block k (by omega) (by omega)⟩
theorem ChgB.of_below (h : Below w.heap.size w w1) : ChgB lo hi w w1 := ⟨h.os, h.tape, h.output, h.size, fun b hb _ => h.block b hb⟩
theorem ResI.chgB (h : ResI w lo hi A c xs) (hb : ChgB lo' hi' w w1) (hB : hi ≤ lo' ∨ hi' ≤ lo) : ResI w1 lo hi A c xs := by
  refine ⟨h.1, h.2.1, ?_⟩
  rcases h.2.2 with e | ⟨b, off, e, h1, h2, h3, hf, hc⟩
  · exact .inl e
  · have hk := hb.block b h3 (by omega)
    exact .inr ⟨b, off, e, h1, h2, Nat.lt_of_lt_of_le h3 hb.size, fun o => (World.frozen?_of_block (w := w) hk).trans (hf o), fun i x hx => (World.cell?_of_block (w := w) hk).trans (hc i x hx)⟩
theorem ResP.chgB (h : ResP w lo hi A1 c1 A2 c2 ds ss) (hb : ChgB lo' hi' w w1) (hB : hi ≤ lo' ∨ hi' ≤ lo) : ResP w1 lo hi A1 c1 A2 c2 ds ss := ⟨h.1.chgB hb hB, h.2.1.chgB hb hB, h.2.2⟩
/-- behind a call that writes the blocks from lo up to hi alone, and may make memory -/
theorem ckeepB (bs : List Nat) (hn : ∀ b ∈ bs, b < w.heap.size ∧ (b < lo ∨ hi ≤ b)) (hb : ChgB lo hi w w1) :
    w.heap.size ≤ w1.heap.size ∧ (∀ b o, b ∈ bs → w1.cell? ⟨b, o, none⟩ = w.cell? ⟨b, o, none⟩) ∧ (∀ b o, b ∈ bs → w1.frozen? ⟨b, o, none⟩ = w.frozen? ⟨b, o, none⟩) ∧
    (∀ b, b ∈ bs → b < w1.heap.size) ∧ (∀ b, b ∈ bs → ¬ b = w1.heap.size) := by
  have hs := hb.size
  exact ⟨hs, fun b o h => World.cell?_of_block (w := w) (hb.block b (hn b h).1 (hn b h).2), fun b o h => World.frozen?_of_block (w := w) (hb.block b (hn b h).1 (hn b h).2), fun b h => by have := (hn b h).1; omega, fun b h => by have := (hn b h).1; omega⟩
/-- two rows that lie apart: ranges of their own -/
theorem ResP.pins (h : ResP w lo hi A1 c1 A2 c2 ds ss) (hl : lo ≤ hi) : ∃ l1 h1 l2 h2, lo ≤ l1 ∧ l1 ≤ h1 ∧ h1 ≤ hi ∧ lo ≤ l2 ∧ l2 ≤ h2 ∧ h2 ≤ hi ∧ (h1 ≤ l2 ∨ h2 ≤ l1) ∧ ResI w l1 h1 A1 c1 ds ∧ ResI w l2 h2 A2 c2 ss := by
  by_cases n1 : ds = []
  · refine ⟨lo, lo, lo, hi, by omega, by omega, by omega, by omega, by omega, by omega, .inl (by omega), ?_, h.2.1⟩
    subst n1
    exact ResI.nil _ _ _ _ _ h.1.2.1
  · by_cases n2 : ss = []
    · refine ⟨lo, hi, lo, lo, by omega, by omega, by omega, by omega, by omega, by omega, .inr (by omega), h.1, ?_⟩
      subst n2
      exact ResI.nil _ _ _ _ _ h.2.1.2.1
    · obtain ⟨b, o, rfl⟩ := h.1.form n1
      obtain ⟨b', o', rfl⟩ := h.2.1.form n2
      obtain ⟨p1, p2, p3⟩ := h.1.pin n1
      obtain ⟨p4, p5, p6⟩ := h.2.1.pin n2
      have hne := h.2.2 n1 n2 b o b' o' rfl rfl
      exact ⟨b, b + 1, b', b' + 1, p1, by omega, by omega, p4, by omega, by omega, by omega, p3, p6⟩
end

end Go.Proofs.Ytjabldjffpjkeaa
