/- Profiles copied, compared, marked, held; their size. -/
import Derived.Test.YtjabldjffpjkeaaProf
namespace Go.Proofs.Ytjabldjffpjkeaa
set_option linter.unusedSimpArgs false
set_option linter.unusedVariables false
open Go.RowKit

/-- two lists in blocks of their own, from lo up to hi, apart from each other -/
def ResP (w : World) (lo hi : Nat) (A1 : Option Addr) (c1 : Nat) (A2 : Option Addr) (c2 : Nat) (ds ss : List Int) : Prop :=
  ResI w lo hi A1 c1 ds ∧ ResI w lo hi A2 c2 ss ∧ (ds ≠ [] → ss ≠ [] → ∀ b o b' o', A1 = some ⟨b, o, none⟩ → A2 = some ⟨b', o', none⟩ → b ≠ b')
def ProfAt (w : World) (A1 : Option Addr) (c1 : Nat) (A2 : Option Addr) (c2 : Nat) (ds ss : List Int) : Prop := IntsAt w A1 c1 ds ∧ IntsAt w A2 c2 ss
theorem ProfAt.below {w w1 : World} {B : Nat} {A1 A2 : Option Addr} {c1 c2 : Nat} {ds ss : List Int} (h : ProfAt w A1 c1 A2 c2 ds ss) (hb : Below B w w1) (hB : w.heap.size ≤ B) : ProfAt w1 A1 c1 A2 c2 ds ss :=
  ⟨h.1.below hb hB, h.2.below hb hB⟩

section
variable {w w1 : World} {lo hi lo' hi' B : Nat} {A1 A2 : Option Addr} {c1 c2 : Nat} {ds ss : List Int}
theorem ResP.at (h : ResP w lo hi A1 c1 A2 c2 ds ss) : ProfAt w A1 c1 A2 c2 ds ss := ⟨h.1.at, h.2.1.at⟩
theorem ResP.below (h : ResP w lo hi A1 c1 A2 c2 ds ss) (hb : Below B w w1) (hB : hi ≤ B) : ResP w1 lo hi A1 c1 A2 c2 ds ss := ⟨h.1.below hb hB, h.2.1.below hb hB, h.2.2⟩
theorem ResP.chg (h : ResP w lo hi A1 c1 A2 c2 ds ss) (hb : Chg lo' hi' w w1) (hB : hi ≤ lo' ∨ hi' ≤ lo) : ResP w1 lo hi A1 c1 A2 c2 ds ss := ⟨h.1.chg hb hB, h.2.1.chg hb hB, h.2.2⟩
theorem ResP.mono (h : ResP w lo hi A1 c1 A2 c2 ds ss) (h1 : lo' ≤ lo) (h2 : hi ≤ hi') : ResP w lo' hi' A1 c1 A2 c2 ds ss := ⟨h.1.mono h1 h2, h.2.1.mono h1 h2, h.2.2⟩
theorem ResP.nil (w : World) (lo hi : Nat) (A1 A2 : Option Addr) : ResP w lo hi A1 0 A2 0 [] [] := ⟨ResI.nil _ _ _ _ _ (by omega), ResI.nil _ _ _ _ _ (by omega), fun h => absurd rfl h⟩
theorem ResP.mk_ {mid : Nat} (h1 : ResI w lo mid A1 c1 ds) (h2 : ResI w mid hi A2 c2 ss) (ha : lo ≤ mid) (hb : mid ≤ hi) : ResP w lo hi A1 c1 A2 c2 ds ss := by
  refine ⟨h1.mono (Nat.le_refl _) hb, h2.mono ha (Nat.le_refl _), fun n1 n2 b o b' o' e1 e2 => ?_⟩
  rcases h1.2.2 with hn | ⟨x, ox, ex, l1, l2, _⟩
  · exact absurd hn n1
  · rcases h2.2.2 with hn | ⟨y, oy, ey, l3, l4, _⟩
    · exact absurd hn n2
    · rw [e1] at ex; rw [e2] at ey
      simp only [Option.some.injEq, Addr.mk.injEq, and_true] at ex ey
      omega
end

end Go.Proofs.Ytjabldjffpjkeaa
