/- Memory that a call makes: a block of N cells, all there and free to be written. -/
import Derived.Test.YtjabldjffpjkeaaW2
import Derived.Deep.RegionHeld3
import Derived.Laws.MakeOwn
import Derived.Laws.OwnMore
import Derived.OwnWalk
import Derived.Maps.AppendAt
namespace Go.Proofs.Ytjabldjffpjkeaa
set_option linter.unusedSimpArgs false
set_option linter.unusedVariables false
open Go.RowKit

/-- block g (from base on) has N cells, none frozen -/
structure Own (w : World) (base g N : Nat) : Prop where
  lo : base ≤ g
  lt : g < w.heap.size
  fr : ∀ o, w.frozen? ⟨g, o, none⟩ = false
  has : ∀ o, o < N → (w.cell? ⟨g, o, none⟩).isSome = true

section
variable {w w1 : World} {base g N o : Nat} {v : Value}

theorem Own.some_ (h : Own w base g N) (ho : o < N) : ∃ u, w.cell? ⟨g, o, none⟩ = some u := Option.isSome_iff_exists.1 (h.has o ho)

theorem Own.cell_set (h : Own w base g N) (ho : o < N) (o' : Nat) : (w.setCell ⟨g, o, none⟩ v).cell? ⟨g, o', none⟩ = if o' = o then some v else w.cell? ⟨g, o', none⟩ := by
  by_cases e : o' = o
  · subst e
    rw [if_pos rfl]
    exact World.cell?_setCell_same' _ _ _ (h.has _ ho)
  · rw [if_neg e]
    exact World.cell?_setCell_other _ _ _ _ (by simp only [ne_eq, Addr.mk.injEq, true_and, and_true]; omega)

theorem size_set (w : World) (a : Addr) (v : Value) : (w.setCell a v).heap.size = w.heap.size := by simp [World.setCell]

theorem Own.set (h : Own w base g N) (a : Addr) : Own (w.setCell a v) base g N := by
  refine ⟨h.lo, by rw [size_set]; exact h.lt, fun o => by rw [World.frozen?_setCell]; exact h.fr o, fun o ho => ?_⟩
  by_cases e : a = ⟨g, o, none⟩
  · subst e
    rw [World.cell?_setCell_same' _ _ _ (h.has _ ho)]
    rfl
  · rw [World.cell?_setCell_other _ _ _ _ e]
    exact h.has o ho

theorem Own.below {B : Nat} (h : Own w base g N) (hb : Below B w w1) (hg : g < B) : Own w1 base g N := by
  have := hb.size
  have := h.lt
  exact ⟨h.lo, by omega, fun o => (hb.frozen (p := ⟨g, o, none⟩) hg).trans (h.fr o), fun o ho => by rw [hb.cell (p := ⟨g, o, none⟩) hg]; exact h.has o ho⟩

theorem Own.alloc (h : Own w base g N) (o : Obj) : Own (w.alloc o) base g N := h.below ((Below.refl w.heap.size w).alloc (Nat.le_refl _) o) h.lt

theorem own_made (w : World) (cs : Array Value) (t : TypeId) (hN : cs.size = N) (hb : base ≤ w.heap.size) : Own (w.alloc (.cells cs t)) base w.heap.size N := by
  refine ⟨hb, by simp, fun o => by simp, fun o ho => ?_⟩
  rw [World.cell?_alloc_new, Array.getElem?_eq_getElem (by omega)]
  rfl
end

/-- the slice over block g reads as the numbers xs -/
theorem ints_of {w : World} {g c : Nat} {xs : List Int} (hl : g < w.heap.size) (hc : xs.length ≤ c) (hc2 : c ≤ 9223372036854775807) (h : ∀ i x, xs[i]? = some x → w.cell? ⟨g, i, none⟩ = some (.int .i64 x)) : IntsAt w (some ⟨g, 0, none⟩) c xs :=
  ⟨hc, hc2, .inr ⟨g, 0, rfl, hl, fun i x hx => by rw [Nat.zero_add]; exact h i x hx⟩⟩

theorem make_rowN {P : Program} (t e : TypeId) (i : TypeInfo) (z : Value) (ht : P.underlying t = some (.slice e)) (hi : P.info? e = some i) (hz : i.zero = some z)
    (kl kc : IntKind) (n c : Nat) (hnc : n ≤ c) (hbytes : i.bytes * c ≤ 281474976710656) (h63 : c ≤ 9223372036854775807) (w : World) :
    (Instr.makeSlice t (.int kl (n : Int)) (.int kc (c : Int))).run P w = .ok (.slice (some ⟨w.heap.size, 0, none⟩) n c) (w.alloc (.cells (madeCells z.cells (c * i.size)) e)) := by
  have hb : (i.bytes : Int) * (c : Int) ≤ 281474976710656 := by
    have h : ((i.bytes * c : Nat) : Int) ≤ 281474976710656 := by omega
    rwa [Int.natCast_mul] at h
  have hr := run_make (P := P) w t e i z ht hi hz kl kc n c (by omega) (by omega) hb (by omega)
  simp only [Int.toNat_natCast] at hr
  exact hr

/-- a grown row: the value in its form -/
theorem owns_form {w : World} {base : Nat} {e : TypeId} {size n : Nat} {v : Value} {xs : List Value} (h : w.ownsRow base e size v n xs) : ∃ A c, v = .slice A n c ∧ c ≤ 9223372036854775807 := by
  rcases h.2 with ⟨rfl, rfl⟩ | ⟨g, cap, cur, rfl, _, _, _, hc, _⟩
  · exact ⟨none, 0, rfl, by omega⟩
  · exact ⟨_, cap, rfl, by simpa [maxLen] using hc⟩

theorem owns_below {w w1 : World} {base B : Nat} {e : TypeId} {size n : Nat} {v : Value} {xs : List Value} (h : w.ownsRow base e size v n xs) (hb : Below B w w1) (hB : w.heap.size ≤ B) : w1.ownsRow base e size v n xs := by
  refine ⟨h.1, ?_⟩
  rcases h.2 with h2 | ⟨g, cap, cur, rfl, h1, hg, h3, h4, h5, h6⟩
  · exact .inl h2
  · have hlt : g < w.heap.size := by
      rcases Nat.lt_or_ge g w.heap.size with hh | hh
      · exact hh
      · rw [Array.getElem?_eq_none hh] at hg; cases hg
    exact .inr ⟨g, cap, cur, rfl, h1, by rw [hb.block g (by omega)]; exact hg, h3, h4, h5, h6⟩

theorem app_below {w w' : World} {base : Nat} {e : TypeId} {size n : Nat} {v : Value} {xs : List Value} (h : w.ownsRow base e size v n xs) (hg : w.grownBy w' v.ownBlock) (hbase : base ≤ w.heap.size) : Below base w w' :=
  (Below.refl base w).grown hg hbase fun k hk => (h.lt k hk).1

/-- append(out, u), u one cell: the row of the call's own grows by u -/
theorem app1 {P : Program} {W : World} {ops : Array Oper} {rest : List Oper} {o : Oper} {a : Act} {Q : Exit → Act → World → Prop} (hgd : o.guard = none) (s x : Operand) (t : TypeId)
    (ho : o.op = .call { callee := .builtin .append, args := #[s, x], argTypes := #[t, t] })
    (base : Nat) (e : TypeId) (z : Value) (bytes : Nat) (ht : P.underlying t = some (.slice e)) (hi : (P.info? e).map (fun i => (i.zero, i.size, i.bytes)) = some (some z, 1, bytes))
    (hzs : z.cells.size = 1) (u : Value) (hu : u.oneCell' = true)
    (v : Value) (n : Nat) (xs : List Value) (hs : a.eval s = v) (b : Nat) (hx : a.eval x = .slice (some ⟨b, 0, none⟩) 1 1)
    (hown : W.ownsRow base e 1 v n xs) (hc : W.cell? ⟨b, 0, none⟩ = some u)
    (h63 : n + 1 ≤ maxLen) (hbytes : (n + 1) * bytes ≤ 140737488355328) (hbase : base ≤ W.heap.size)
    (h : ∀ v' w', w'.ownsRow base e 1 v' (n + 1) (xs ++ [u]) → Below base W w' → wpList P ops Q rest (a.put o.dst v') w') : wpList P ops Q (o :: rest) a W := by
  obtain ⟨i, hi1, hi2, hi3, hi4⟩ := info_parts hi
  refine wpList_append_own (P := P) _ hgd s x t ho base e i z 1 bytes ht hi1 hi2 hi3 hi4 hzs (by omega) v n xs hs hown ⟨b, 0, none⟩ 1 1 [u] hx rfl (fun j y hy => ?_) (by simpa using hu) h63 hbytes hbase ?_
  · match j, hy with
    | 0, hy =>
      simp at hy
      subst hy
      simpa [Addr.add] using hc
    | j + 1, hy => simp at hy
  · intro v' w' h1 h2 _
    exact h v' w' h1 (app_below hown h2 hbase)
end Go.Proofs.Ytjabldjffpjkeaa
