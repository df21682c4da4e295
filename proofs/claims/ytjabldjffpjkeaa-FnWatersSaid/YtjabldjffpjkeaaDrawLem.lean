/- Draws: what a source's change leaves, rows of numbers turned at one place. -/
import Derived.Test.YtjabldjffpjkeaaSrc
import Derived.Test.YtjabldjffpjkeaaTwo
import Derived.Test.YtjabldjffpjkeaaProf2
namespace Go.Proofs.Ytjabldjffpjkeaa
set_option linter.unusedSimpArgs false
set_option linter.unusedVariables false
open Go.RowKit

section
variable {w w1 W : World} {A : Option Addr} {c S base xb lo hi : Nat} {xs : List Int}
theorem SrcAt.keepS (h : SrcAt w S A c xs) (k : Keep 0 (S + 1) w W) : SrcAt W S A c xs :=
  h.of_block k.size (k.block S (Nat.zero_le _) (Nat.lt_succ_self _)) (fun b hb => k.block b (Nat.zero_le _) (by omega))
theorem Far.keep (h : Far base xb w w1) (h1 : S + 1 ≤ base) (h2 : S + 1 ≤ w.heap.size) : Keep 0 (S + 1) w w1 := ⟨h.size, fun b _ hb => h.block b (by omega) (.inl (by omega))⟩
theorem Chg.keepX {hi : Nat} (h : Chg S (S + 1) w w1) (h1 : S < base) : KeepX base hi xb w w1 := ⟨by rw [h.size]; exact Nat.le_refl _, fun b hb _ _ => h.block b (.inr (by omega))⟩
theorem ChgB.far (h : ChgB lo hi w w1) (k : Far base xb w1 W) (h1 : w.heap.size ≤ base) : ChgB lo hi w W :=
  ⟨k.os.trans h.os, k.tape.trans h.tape, k.output.trans h.output, Nat.le_trans h.size k.size, fun b hb hr => (k.block b (Nat.lt_of_lt_of_le hb h.size) (.inl (by omega))).trans (h.block b hb hr)⟩
theorem ChgB.setB {b o : Nat} (h : ChgB lo hi w w1) (hb : w.heap.size ≤ b) (v : Value) : ChgB lo hi w (w1.setCell ⟨b, o, none⟩ v) :=
  ⟨h.os, h.tape, h.output, by rw [size_set]; exact h.size, fun k hk hr => (heap_setCell_other _ _ _ _ (by show k ≠ b; omega)).trans (h.block k hk hr)⟩
theorem ChgB.alloc (h : ChgB lo hi w w1) (o : Obj) : ChgB lo hi w (w1.alloc o) := h.trans (ChgB.of_below ((Below.refl _ _).alloc (Nat.le_refl _) o))
theorem ChgB.drew (h : ChgB lo hi w w1) : ChgB lo hi w w1.drew := ⟨h.os, h.tape, h.output, by simpa using h.size, h.block⟩
theorem ChgB.drewN (h : ChgB lo hi w w1) (n : Nat) : ChgB lo hi w (w1.drewN n) := ⟨h.os, h.tape, h.output, by simpa using h.size, h.block⟩
theorem ChgB.refl (lo hi : Nat) (w : World) : ChgB lo hi w w := ⟨rfl, rfl, rfl, Nat.le_refl _, fun _ _ _ => rfl⟩
theorem Chg.far_ (h : Chg S (S + 1) w w1) {b o : Nat} (hb : b ≠ S) : w1.cell? ⟨b, o, none⟩ = w.cell? ⟨b, o, none⟩ := h.old (by omega) o
theorem Chg.farF (h : Chg S (S + 1) w w1) {b o : Nat} (hb : b ≠ S) : w1.frozen? ⟨b, o, none⟩ = w.frozen? ⟨b, o, none⟩ := World.frozen?_of_block (w := w) (h.block b (by omega))
/-- behind a draw: the named blocks, none of which is the source's -/
theorem ckeepS (bs : List Nat) (hn : ∀ b ∈ bs, b < w.heap.size ∧ b ≠ S) (h : Chg S (S + 1) w w1) :
    (∀ b o, b ∈ bs → w1.cell? ⟨b, o, none⟩ = w.cell? ⟨b, o, none⟩) ∧ (∀ b o, b ∈ bs → w1.frozen? ⟨b, o, none⟩ = w.frozen? ⟨b, o, none⟩) ∧ (∀ b, b ∈ bs → b < w1.heap.size) ∧ (∀ b, b ∈ bs → ¬ b = w1.heap.size) :=
  ⟨fun b o hb => h.far_ (hn b hb).2, fun b o hb => h.farF (hn b hb).2, fun b hb => by rw [h.size]; exact (hn b hb).1, fun b hb => by have := (hn b hb).1; have := h.size; omega⟩
/-- a number of a row of numbers turned -/
theorem ResI.setAt {b off i : Nat} {z : Int} (h : ResI w lo hi (some ⟨b, off, none⟩) c xs) (hi' : i < xs.length) : ResI (w.setCell ⟨b, off + i, none⟩ (.int .i64 z)) lo hi (some ⟨b, off, none⟩) c (xs.set i z) := by
  refine ⟨by rw [List.length_set]; exact h.1, h.2.1, ?_⟩
  rcases h.2.2 with e | ⟨b', off', e, h1, h2, h3, hf, hc⟩
  · rw [e] at hi'; simp at hi'
  · simp only [Option.some.injEq, Addr.mk.injEq, and_true] at e
    obtain ⟨rfl, rfl⟩ := e
    refine .inr ⟨b, off, rfl, h1, h2, by rw [size_set]; exact h3, fun o => by rw [World.frozen?_setCell]; exact hf o, fun j x hx => ?_⟩
    by_cases e : j = i
    · subst e
      rw [List.getElem?_set_self hi'] at hx
      injection hx with hx
      subst hx
      exact World.cell?_setCell_same' _ _ _ (by rw [hc j _ (List.getElem?_eq_getElem hi')]; rfl)
    · rw [List.getElem?_set_ne (fun g => e g.symm)] at hx
      rw [World.cell?_setCell_other _ _ _ _ (by simp only [ne_eq, Addr.mk.injEq, true_and, and_true]; omega)]
      exact hc j x hx
theorem ResP.kept {A1 A2 : Option Addr} {c1 c2 : Nat} {ds ss : List Int} (h : ResP w lo hi A1 c1 A2 c2 ds ss) (k : Keep lo hi w w1) : ResP w1 lo hi A1 c1 A2 c2 ds ss := ⟨h.1.kept k, h.2.1.kept k, h.2.2⟩
theorem ResI.aside {A2 : Option Addr} {b o : Nat} {v : Value} (h : ResI w lo hi A2 c xs) (hn : xs ≠ [] → ∀ b' o', A2 = some ⟨b', o', none⟩ → b ≠ b') : ResI (w.setCell ⟨b, o, none⟩ v) lo hi A2 c xs := by
  by_cases e : xs = []
  · subst e; exact ResI.nil _ _ _ _ _ h.2.1
  · obtain ⟨b', o', rfl⟩ := h.form e
    obtain ⟨p1, p2, p3⟩ := h.pin e
    have := hn e b' o' rfl
    exact (p3.kept ((Keep.refl _ _ _).setB (by omega) v)).mono p1 (by omega)
theorem ResP.setFst {A2 : Option Addr} {b off c1 c2 : Nat} {ds ss : List Int} {z : Int} (h : ResP w lo hi (some ⟨b, off, none⟩) c1 A2 c2 ds ss) (h0 : 0 < ds.length) : ResP (w.setCell ⟨b, off, none⟩ (.int .i64 z)) lo hi (some ⟨b, off, none⟩) c1 A2 c2 (ds.set 0 z) ss := by
  have hd : ds ≠ [] := by intro e; rw [e] at h0; simp at h0
  refine ⟨by simpa using h.1.setAt (i := 0) (z := z) h0, h.2.1.aside (fun hs b' o' e => h.2.2 hd hs b off b' o' rfl e), fun _ => h.2.2 hd⟩
theorem ResP.symm_ {A1 A2 : Option Addr} {c1 c2 : Nat} {ds ss : List Int} (h : ResP w lo hi A1 c1 A2 c2 ds ss) : ResP w lo hi A2 c2 A1 c1 ss ds := ⟨h.2.1, h.1, fun a b x o x' o' e e' g => h.2.2 b a x' o' x o e' e g.symm⟩
theorem ResP.setSnd {A1 : Option Addr} {b off c1 c2 : Nat} {ds ss : List Int} {z : Int} (h : ResP w lo hi A1 c1 (some ⟨b, off, none⟩) c2 ds ss) (h0 : 0 < ss.length) : ResP (w.setCell ⟨b, off, none⟩ (.int .i64 z)) lo hi A1 c1 (some ⟨b, off, none⟩) c2 ds (ss.set 0 z) := (h.symm_.setFst h0).symm_
end
theorem Two.zero2 (w : World) (xb : Nat) (h : xb < w.heap.size) : Two ((w.alloc (.cells #[] 2)).alloc (.cells #[] 2)) w.heap.size xb (.slice (some ⟨w.heap.size, 0, none⟩) 0 0) (.slice (some ⟨w.heap.size + 1, 0, none⟩) 0 0) [] [] := by
  have h1 := OwnI.zero (w := w) (base := w.heap.size) (Nat.le_refl _)
  have h2 := OwnI.zero (w := w.alloc (.cells #[] 2)) (base := w.heap.size) (by simp)
  have e2 : (w.alloc (.cells #[] 2)).heap.size = w.heap.size + 1 := by simp
  rw [e2] at h2
  refine ⟨h1.below ((Below.refl (w.alloc (.cells #[] 2)).heap.size _).alloc (Nat.le_refl _) (.cells #[] 2)) (Nat.le_refl _), h2, by simp [Value.ownBlock]; omega, by simp [Value.ownBlock]; omega, fun g e => ?_⟩
  simp only [Value.ownBlock, Option.some.injEq] at e
  subst e
  simp [Value.ownBlock]
theorem ResP.keepB {w w1 W : World} {lo hi lo' hi' c1 c2 : Nat} {A1 A2 : Option Addr} {ds ss : List Int} (h : ResP w lo hi A1 c1 A2 c2 ds ss) (k : Keep lo hi w W) (hc : ChgB lo' hi' W w1) (h1 : hi' ≤ lo) (h2 : hi ≤ W.heap.size) : ResP w1 lo hi A1 c1 A2 c2 ds ss :=
  (h.kept k).kept ⟨hc.size, fun b hb1 hb2 => hc.block b (by omega) (.inr (by omega))⟩
end Go.Proofs.Ytjabldjffpjkeaa
