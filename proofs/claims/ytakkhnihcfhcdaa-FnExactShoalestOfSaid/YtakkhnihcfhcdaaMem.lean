/- Memory that a call makes: a block of N cells, all there and free to be written. -/
import Derived.Test.YtakkhnihcfhcdaaW2
import Derived.Deep.RegionHeld3
import Derived.Laws.MakeOwn
import Derived.Laws.OwnMore
namespace Go.Proofs.Ytakkhnihcfhcdaa
set_option linter.unusedSimpArgs false
set_option linter.unusedVariables false
open Go.RowKit

/-- block g (from base on) has N cells, none frozen -/
structure Own (w : World) (base g N : Nat) : Prop where
  lo : base ≤ g
  lt : g < w.heap.size
  fr : ∀ o, w.frozen? ⟨g, o, none⟩ = false
  has : ∀ o, o < N → (w.cell? ⟨g, o, none⟩).isSome = true

section
variable {w w1 : World} {base g N o : Nat} {v : Value}

theorem Own.some_ (h : Own w base g N) (ho : o < N) : ∃ u, w.cell? ⟨g, o, none⟩ = some u := Option.isSome_iff_exists.1 (h.has o ho)

theorem Own.cell_set (h : Own w base g N) (ho : o < N) (o' : Nat) : (w.setCell ⟨g, o, none⟩ v).cell? ⟨g, o', none⟩ = if o' = o then some v else w.cell? ⟨g, o', none⟩ := by
  by_cases e : o' = o
  · subst e
    rw [if_pos rfl]
    exact World.cell?_setCell_same' _ _ _ (h.has _ ho)
  · rw [if_neg e]
    exact World.cell?_setCell_other _ _ _ _ (by simp only [ne_eq, Addr.mk.injEq, true_and, and_true]; omega)

theorem size_set (w : World) (a : Addr) (v : Value) : (w.setCell a v).heap.size = w.heap.size := by simp [World.setCell]

theorem Own.set (h : Own w base g N) (a : Addr) : Own (w.setCell a v) base g N := by
  refine ⟨h.lo, by rw [size_set]; exact h.lt, fun o => by rw [World.frozen?_setCell]; exact h.fr o, fun o ho => ?_⟩
  by_cases e : a = ⟨g, o, none⟩
  · subst e
    rw [World.cell?_setCell_same' _ _ _ (h.has _ ho)]
    rfl
  · rw [World.cell?_setCell_other _ _ _ _ e]
    exact h.has o ho

theorem Own.below {B : Nat} (h : Own w base g N) (hb : Below B w w1) (hg : g < B) : Own w1 base g N := by
  have := hb.size
  have := h.lt
  exact ⟨h.lo, by omega, fun o => (hb.frozen (p := ⟨g, o, none⟩) hg).trans (h.fr o), fun o ho => by rw [hb.cell (p := ⟨g, o, none⟩) hg]; exact h.has o ho⟩

theorem Own.alloc (h : Own w base g N) (o : Obj) : Own (w.alloc o) base g N := h.below ((Below.refl w.heap.size w).alloc (Nat.le_refl _) o) h.lt

theorem own_made (w : World) (cs : Array Value) (t : TypeId) (hN : cs.size = N) (hb : base ≤ w.heap.size) : Own (w.alloc (.cells cs t)) base w.heap.size N := by
  refine ⟨hb, by simp, fun o => by simp, fun o ho => ?_⟩
  rw [World.cell?_alloc_new, Array.getElem?_eq_getElem (by omega)]
  rfl
end

/-- the slice over block g reads as the numbers xs -/
theorem ints_of {w : World} {g c : Nat} {xs : List Int} (hl : g < w.heap.size) (hc : xs.length ≤ c) (hc2 : c ≤ 9223372036854775807) (h : ∀ i x, xs[i]? = some x → w.cell? ⟨g, i, none⟩ = some (.int .i64 x)) : IntsAt w (some ⟨g, 0, none⟩) c xs :=
  ⟨hc, hc2, .inr ⟨g, 0, rfl, hl, fun i x hx => by rw [Nat.zero_add]; exact h i x hx⟩⟩

theorem make_rowN {P : Program} (t e : TypeId) (i : TypeInfo) (z : Value) (ht : P.underlying t = some (.slice e)) (hi : P.info? e = some i) (hz : i.zero = some z)
    (kl kc : IntKind) (n c : Nat) (hnc : n ≤ c) (hbytes : i.bytes * c ≤ 281474976710656) (h63 : c ≤ 9223372036854775807) (w : World) :
    (Instr.makeSlice t (.int kl (n : Int)) (.int kc (c : Int))).run P w = .ok (.slice (some ⟨w.heap.size, 0, none⟩) n c) (w.alloc (.cells (madeCells z.cells (c * i.size)) e)) := by
  have hb : (i.bytes : Int) * (c : Int) ≤ 281474976710656 := by
    have h : ((i.bytes * c : Nat) : Int) ≤ 281474976710656 := by omega
    rwa [Int.natCast_mul] at h
  have hr := run_make (P := P) w t e i z ht hi hz kl kc n c (by omega) (by omega) hb (by omega)
  simp only [Int.toNat_natCast] at hr
  exact hr
end Go.Proofs.Ytakkhnihcfhcdaa
