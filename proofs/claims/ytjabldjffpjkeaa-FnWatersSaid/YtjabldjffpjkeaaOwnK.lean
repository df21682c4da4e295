/- Rows whose elements have several cells: what reads as a list of them; several rows that a call grows itself. -/
import Derived.Test.YtjabldjffpjkeaaApp
import Derived.Test.YtjabldjffpjkeaaMark
namespace Go.Proofs.Ytjabldjffpjkeaa
set_option linter.unusedSimpArgs false
set_option linter.unusedVariables false
open Go.RowKit

theorem flat_get {α : Type} {size : Nat} : ∀ (els : List (List α)), (∀ e ∈ els, e.length = size) → ∀ (i : Nat) (e : List α) (j : Nat) (u : α), els[i]? = some e → e[j]? = some u → els.flatten[i * size + j]? = some u := by
  intro els
  induction els with
  | nil => intro _ i e j u h; simp at h
  | cons a rest ih =>
    intro hall i e j u he hu
    have ha : a.length = size := hall a (by simp)
    cases i with
    | zero =>
      simp at he
      subst he
      have hj := (List.getElem?_eq_some_iff.1 hu).1
      rw [Nat.zero_mul, Nat.zero_add, List.flatten_cons, List.getElem?_append_left hj]
      exact hu
    | succ i =>
      rw [List.getElem?_cons_succ] at he
      have h := ih (fun x hx => hall x (by simp [hx])) i e j u he hu
      have e1 : (i + 1) * size + j = a.length + (i * size + j) := by rw [ha, Nat.succ_mul]; omega
      rw [List.flatten_cons, e1, List.getElem?_append_right (by omega), Nat.add_sub_cancel_left]
      exact h

/-- the slice with address A and capacity c reads as these elements, each of so many cells -/
def KAt (w : World) (A : Option Addr) (c size : Nat) (els : List (List Value)) : Prop :=
  els.length ≤ c ∧ c ≤ 9223372036854775807 ∧ (els = [] ∨ ∃ b off, A = some ⟨b, off, none⟩ ∧ b < w.heap.size ∧ ∀ i e j u, els[i]? = some e → e[j]? = some u → w.cell? ⟨b, off + i * size + j, none⟩ = some u)
/-- the same in one of the blocks from lo up to hi, none of its cells frozen -/
def ResK (w : World) (lo hi : Nat) (A : Option Addr) (c size : Nat) (els : List (List Value)) : Prop :=
  els.length ≤ c ∧ c ≤ 9223372036854775807 ∧ (els = [] ∨ ∃ b off, A = some ⟨b, off, none⟩ ∧ lo ≤ b ∧ b < hi ∧ b < w.heap.size ∧ (∀ o, w.frozen? ⟨b, o, none⟩ = false) ∧ ∀ i e j u, els[i]? = some e → e[j]? = some u → w.cell? ⟨b, off + i * size + j, none⟩ = some u)

section
variable {w w1 W : World} {lo hi lo' hi' B c size base : Nat} {A : Option Addr} {els : List (List Value)}
theorem ResK.nil (w : World) (lo hi : Nat) (A : Option Addr) (c size : Nat) (hc : c ≤ 9223372036854775807) : ResK w lo hi A c size [] := ⟨by simp, hc, .inl rfl⟩
theorem ResK.at (h : ResK w lo hi A c size els) : KAt w A c size els := by
  refine ⟨h.1, h.2.1, ?_⟩
  rcases h.2.2 with e | ⟨b, off, e, _, _, h3, _, hc⟩
  · exact .inl e
  · exact .inr ⟨b, off, e, h3, hc⟩
theorem KAt.below (h : KAt w A c size els) (hb : Below B w w1) (hB : w.heap.size ≤ B) : KAt w1 A c size els := by
  refine ⟨h.1, h.2.1, ?_⟩
  rcases h.2.2 with e | ⟨b, off, e, h3, hc⟩
  · exact .inl e
  · have := hb.size
    exact .inr ⟨b, off, e, by omega, fun i e' j u h1 h2 => (hb.cell (p := ⟨b, _, none⟩) (by show b < B; omega)).trans (hc i e' j u h1 h2)⟩
theorem ResK.below (h : ResK w lo hi A c size els) (hb : Below B w w1) (hB : hi ≤ B) : ResK w1 lo hi A c size els := by
  refine ⟨h.1, h.2.1, ?_⟩
  rcases h.2.2 with e | ⟨b, off, e, h1, h2, h3, hf, hc⟩
  · exact .inl e
  · have := hb.size
    exact .inr ⟨b, off, e, h1, h2, by omega, fun o => (hb.frozen (p := ⟨b, o, none⟩) (by show b < B; omega)).trans (hf o), fun i e' j u g1 g2 => (hb.cell (p := ⟨b, _, none⟩) (by show b < B; omega)).trans (hc i e' j u g1 g2)⟩
theorem ResK.mono (h : ResK w lo hi A c size els) (h1 : lo' ≤ lo) (h2 : hi ≤ hi') : ResK w lo' hi' A c size els := by
  refine ⟨h.1, h.2.1, ?_⟩
  rcases h.2.2 with e | ⟨b, off, e, g1, g2, h3, hf, hc⟩
  · exact .inl e
  · exact .inr ⟨b, off, e, by omega, by omega, h3, hf, hc⟩
theorem ResK.chgB (h : ResK w lo hi A c size els) (hb : ChgB lo' hi' w w1) (hB : hi ≤ lo' ∨ hi' ≤ lo) : ResK w1 lo hi A c size els := by
  refine ⟨h.1, h.2.1, ?_⟩
  rcases h.2.2 with e | ⟨b, off, e, h1, h2, h3, hf, hc⟩
  · exact .inl e
  · have hk := hb.block b h3 (by omega)
    exact .inr ⟨b, off, e, h1, h2, Nat.lt_of_lt_of_le h3 hb.size, fun o => (World.frozen?_of_block (w := w) hk).trans (hf o), fun i e' j u g1 g2 => (World.cell?_of_block (w := w) hk).trans (hc i e' j u g1 g2)⟩
theorem ResK.keep (h : ResK w lo hi A c size els) (k : Keep lo hi w w1) : ResK w1 lo hi A c size els := by
  refine ⟨h.1, h.2.1, ?_⟩
  rcases h.2.2 with e | ⟨b, off, e, h1, h2, h3, hf, hc⟩
  · exact .inl e
  · have hk := k.block b h1 h2
    exact .inr ⟨b, off, e, h1, h2, Nat.lt_of_lt_of_le h3 k.size, fun o => (World.frozen?_of_block (w := w) hk).trans (hf o), fun i e' j u g1 g2 => (World.cell?_of_block (w := w) hk).trans (hc i e' j u g1 g2)⟩
theorem KAt.at_ {i : Nat} (h : KAt w A c size els) (hi : i < els.length) :
    ∃ b off e, A = some ⟨b, off, none⟩ ∧ b < w.heap.size ∧ els[i]? = some e ∧ ∀ j u, e[j]? = some u → w.cell? ⟨b, off + i * size + j, none⟩ = some u := by
  rcases h.2.2 with e | ⟨b, off, e, h3, hc⟩
  · rw [e] at hi; simp at hi
  · exact ⟨b, off, els[i], e, h3, List.getElem?_eq_getElem hi, fun j u hu => hc i _ j u (List.getElem?_eq_getElem hi) hu⟩

/-! rows that a call grows -/
theorem own_keep {e : TypeId} {v : Value} {n : Nat} {xs : List Value} (h : w.ownsRow base e size v n xs) (k : Keep base w.heap.size w W) : W.ownsRow base e size v n xs := by
  refine ⟨h.1, ?_⟩
  rcases h.2 with h' | ⟨g, cap, cur, h1, h2, hg, h4⟩
  · exact .inl h'
  · have hlt : g < w.heap.size := by
      rcases Nat.lt_or_ge g w.heap.size with hh | hh
      · exact hh
      · rw [Array.getElem?_eq_none hh] at hg; cases hg
    exact .inr ⟨g, cap, cur, h1, h2, (k.block g h2 hlt).trans hg, h4⟩
theorem own_ne {b1 b2 s1 s2 n1 n2 : Nat} {e1 e2 : TypeId} {v1 v2 : Value} {x1 x2 : List Value} (h1 : w.ownsRow b1 e1 s1 v1 n1 x1) (h2 : w.ownsRow b2 e2 s2 v2 n2 x2) (he : e2 ≠ e1) : v2.ownBlock = none ∨ v2.ownBlock ≠ v1.ownBlock := by
  rcases h2.2 with ⟨rfl, _⟩ | ⟨g2, _, cur2, rfl, _, hg2, _⟩
  · exact .inl rfl
  · right
    rcases h1.2 with ⟨rfl, _⟩ | ⟨g1, _, cur1, rfl, _, hg1, _⟩
    · simp [Value.ownBlock]
    · simp only [Value.ownBlock, ne_eq, Option.some.injEq]
      intro e
      subst e
      rw [hg1] at hg2
      simp only [Option.some.injEq, Obj.cells.injEq] at hg2
      exact he hg2.2.1.symm
theorem Keep.grown {row : Option Nat} (h : Keep lo hi w W) (hg : W.grownBy w1 row) (hr : ∀ k, row = some k → k < lo ∨ hi ≤ k) (hs : hi ≤ w.heap.size) : Keep lo hi w w1 :=
  ⟨Nat.le_trans h.size hg.size, fun b h1 h2 => (hg.block b (by have := h.size; omega) (fun e => by have := hr b e.symm; omega)).trans (h.block b h1 h2)⟩
theorem Keep.setB {b o : Nat} (h : Keep lo hi w w1) (ha : b < lo ∨ hi ≤ b) (v : Value) : Keep lo hi w (w1.setCell ⟨b, o, none⟩ v) := h.set (a := ⟨b, o, none⟩) ha v
theorem Keep.of_below (hb : Below hi w w1) : Keep lo hi w w1 := ⟨hb.size, fun b _ h => hb.block b h⟩
/-- behind an append that grew a row between lo and hi: the named blocks beside it -/
theorem gkeep {row : Option Nat} (bs : List Nat) (hr : ∀ k, row = some k → lo ≤ k ∧ k < hi) (hn : ∀ b ∈ bs, b < w.heap.size ∧ (b < lo ∨ hi ≤ b)) (hg : w.grownBy w1 row) :
    w.heap.size ≤ w1.heap.size ∧ (∀ b o, b ∈ bs → w1.cell? ⟨b, o, none⟩ = w.cell? ⟨b, o, none⟩) ∧ (∀ b o, b ∈ bs → w1.frozen? ⟨b, o, none⟩ = w.frozen? ⟨b, o, none⟩) ∧
    (∀ b, b ∈ bs → b < w1.heap.size) ∧ (∀ b, b ∈ bs → ¬ b = w1.heap.size) := by
  have hs := hg.size
  have hb : ∀ b, b ∈ bs → w1.heap[b]? = w.heap[b]? := fun b h => hg.block b (hn b h).1 (fun e => by have := hr b e.symm; have := (hn b h).2; omega)
  exact ⟨hs, fun b o h => World.cell?_of_block (w := w) (hb b h), fun b o h => World.frozen?_of_block (w := w) (hb b h), fun b h => by have := (hn b h).1; omega, fun b h => by have := (hn b h).1; omega⟩
/-- the same, a further block xb excluded -/
theorem gkeepX {row : Option Nat} {xb : Nat} (bs : List Nat) (hr : ∀ k, row = some k → lo ≤ k ∧ k < hi ∧ k ≠ xb) (hn : ∀ b ∈ bs, b < w.heap.size ∧ (b < lo ∨ hi ≤ b ∨ b = xb)) (hg : w.grownBy w1 row) :
    w.heap.size ≤ w1.heap.size ∧ (∀ b o, b ∈ bs → w1.cell? ⟨b, o, none⟩ = w.cell? ⟨b, o, none⟩) ∧ (∀ b o, b ∈ bs → w1.frozen? ⟨b, o, none⟩ = w.frozen? ⟨b, o, none⟩) ∧
    (∀ b, b ∈ bs → b < w1.heap.size) ∧ (∀ b, b ∈ bs → ¬ b = w1.heap.size) := by
  have hs := hg.size
  have hb : ∀ b, b ∈ bs → w1.heap[b]? = w.heap[b]? := fun b h => hg.block b (hn b h).1 (fun e => by have := hr b e.symm; have := (hn b h).2; omega)
  exact ⟨hs, fun b o h => World.cell?_of_block (w := w) (hb b h), fun b o h => World.frozen?_of_block (w := w) (hb b h), fun b h => by have := (hn b h).1; omega, fun b h => by have := (hn b h).1; omega⟩
theorem ne_hat {v v' : Value} {xb : Nat} (hat : v'.ownBlock = v.ownBlock ∨ v'.ownBlock = some w.heap.size) (h : v.ownBlock ≠ some xb) (hx : xb < w.heap.size) : v'.ownBlock ≠ some xb := by
  rcases hat with e | e
  · rw [e]; exact h
  · rw [e]; intro g; injection g with g; omega
theorem bAt (h : Below B w w1) {b o : Nat} (hb : b < B) : w1.cell? ⟨b, o, none⟩ = w.cell? ⟨b, o, none⟩ := h.cell (p := ⟨b, o, none⟩) hb
theorem bAtF (h : Below B w w1) {b o : Nat} (hb : b < B) : w1.frozen? ⟨b, o, none⟩ = w.frozen? ⟨b, o, none⟩ := h.frozen (p := ⟨b, o, none⟩) hb
theorem Below.grow {row : Option Nat} {w0 : World} (h : Below B w0 w) (hg : w.grownBy w1 row) (hr : ∀ k, row = some k → B ≤ k) (hs : B ≤ w.heap.size) : Below B w0 w1 :=
  ⟨hg.os.trans h.os, hg.tape.trans h.tape, hg.output.trans h.output, Nat.le_trans h.size hg.size, fun b hb => (hg.block b (by omega) (fun e => by have := hr b e.symm; omega)).trans (h.block b hb)⟩

/-- the blocks from lo up to hi, but for xb, are as they were -/
structure KeepX (lo hi xb : Nat) (w w1 : World) : Prop where
  size : w.heap.size ≤ w1.heap.size
  block : ∀ b, lo ≤ b → b < hi → b ≠ xb → w1.heap[b]? = w.heap[b]?
section
variable {w w1 W : World} {lo hi base xb : Nat}
theorem KeepX.refl (lo hi xb : Nat) (w : World) : KeepX lo hi xb w w := ⟨Nat.le_refl _, fun _ _ _ _ => rfl⟩
theorem KeepX.setB {b o : Nat} (h : KeepX lo hi xb w w1) (ha : b < lo ∨ hi ≤ b ∨ b = xb) (v : Value) : KeepX lo hi xb w (w1.setCell ⟨b, o, none⟩ v) :=
  ⟨by rw [size_set]; exact h.size, fun k h1 h2 h3 => (heap_setCell_other _ _ _ _ (by show k ≠ b; omega)).trans (h.block k h1 h2 h3)⟩
theorem KeepX.of_below (hb : Below hi w w1) : KeepX lo hi xb w w1 := ⟨hb.size, fun b _ h _ => hb.block b h⟩
theorem KeepX.below {B : Nat} {w2 : World} (h : KeepX lo hi xb w w1) (hb : Below B w1 w2) (hB : hi ≤ B) : KeepX lo hi xb w w2 :=
  ⟨Nat.le_trans h.size hb.size, fun b h1 h2 h3 => (hb.block b (by omega)).trans (h.block b h1 h2 h3)⟩
theorem KeepX.alloc (h : KeepX lo hi xb w w1) (hB : hi ≤ w1.heap.size) (o : Obj) : KeepX lo hi xb w (w1.alloc o) := h.below ((Below.refl _ _).alloc (Nat.le_refl _) o) hB
theorem KeepX.drew (h : KeepX lo hi xb w w1) : KeepX lo hi xb w w1.drew := ⟨h.size, h.block⟩
theorem own_keepX {e : TypeId} {v : Value} {size n : Nat} {xs : List Value} (h : w.ownsRow base e size v n xs) (hx : v.ownBlock ≠ some xb) (k : KeepX base w.heap.size xb w W) : W.ownsRow base e size v n xs := by
  refine ⟨h.1, ?_⟩
  rcases h.2 with h' | ⟨g, cap, cur, h1, h2, hg, h4⟩
  · exact .inl h'
  · have hlt : g < w.heap.size := by
      rcases Nat.lt_or_ge g w.heap.size with hh | hh
      · exact hh
      · rw [Array.getElem?_eq_none hh] at hg; cases hg
    exact .inr ⟨g, cap, cur, h1, h2, (k.block g h2 hlt (fun e_ => hx (by rw [h1, ← e_]; rfl))).trans hg, h4⟩
end

/-- v is a row of the call's own with these elements -/
def OwnK (w : World) (base : Nat) (e : TypeId) (size : Nat) (v : Value) (els : List (List Value)) : Prop :=
  ∃ A c, v = .slice A els.length c ∧ c ≤ 9223372036854775807 ∧ w.ownsRow base e size (.slice A els.length c) els.length els.flatten ∧ ∀ x ∈ els, x.length = size
theorem OwnK.none_ (w : World) (base : Nat) (e : TypeId) (size : Nat) : OwnK w base e size (.slice none 0 0) [] := ⟨none, 0, rfl, by omega, World.ownsRow_nil _ _ _ _, by simp⟩
theorem OwnK.zero {e : TypeId} {size : Nat} (h : base ≤ w.heap.size) : OwnK (w.alloc (.cells #[] e)) base e size (.slice (some ⟨w.heap.size, 0, none⟩) 0 0) [] :=
  ⟨_, 0, rfl, by omega, World.ownsRow_made w #[] 0 h (by unfold maxLen; omega) (by simp), by simp⟩
theorem OwnK.next {e : TypeId} {v : Value} {us : List Value} {els' : List (List Value)} (hl : els' = els ++ [us]) (h : w.ownsRow base e size v (els.length + 1) (els.flatten ++ us)) (ha : ∀ x ∈ els, x.length = size) (hu : us.length = size) : OwnK w base e size v els' := by
  subst hl
  obtain ⟨A, c, rfl, hc⟩ := owns_form h
  refine ⟨A, c, by simp, hc, by simpa using h, fun x hx => ?_⟩
  rcases List.mem_append.1 hx with h1 | h1
  · exact ha x h1
  · simp at h1; subst h1; exact hu
theorem OwnK.below {e : TypeId} {v : Value} (h : OwnK w base e size v els) (hb : Below B w w1) (hB : w.heap.size ≤ B) : OwnK w1 base e size v els := by
  obtain ⟨A, c, rfl, hc, ho, ha⟩ := h
  exact ⟨A, c, rfl, hc, owns_below ho hb hB, ha⟩
theorem OwnK.keep {e : TypeId} {v : Value} (h : OwnK w base e size v els) (k : Keep base w.heap.size w W) : OwnK W base e size v els := by
  obtain ⟨A, c, rfl, hc, ho, ha⟩ := h
  exact ⟨A, c, rfl, hc, own_keep ho k, ha⟩
theorem OwnK.res {e : TypeId} {n : Nat} (h : OwnK w base e size (.slice A n c) els) : n = els.length ∧ ResK w base w.heap.size A c size els := by
  obtain ⟨A', c', h0, hc0, ho, ha⟩ := h
  injection h0 with a1 a2 a3
  subst a1 a2 a3
  refine ⟨rfl, ?_⟩
  rcases ho.2 with ⟨hv, hn⟩ | ⟨g, cap, cur, hv, hb, hg, hnc, hcm, hcs, htake⟩
  · have : els = [] := List.eq_nil_of_length_eq_zero hn
    subst this
    exact ResK.nil _ _ _ _ _ _ hc0
  · injection hv with h1 h2 h3
    subst h1 h3
    have hlt : g < w.heap.size := by
      rcases Nat.lt_or_ge g w.heap.size with hh | hh
      · exact hh
      · rw [Array.getElem?_eq_none hh] at hg; cases hg
    refine ⟨hnc, hc0, .inr ⟨g, 0, rfl, hb, hlt, hlt, fun o => frozen_of_row w g o cur e hg, fun i x j u h1 h2 => ?_⟩⟩
    have h3 := flat_get els ha i x j u h1 h2
    have hi := (List.getElem?_eq_some_iff.1 h1).1
    have hj := (List.getElem?_eq_some_iff.1 h2).1
    have hx := ha x (List.mem_of_getElem? h1)
    have hlt2 : i * size + j < els.length * size := by
      have : (i + 1) * size ≤ els.length * size := Nat.mul_le_mul_right _ hi
      rw [Nat.succ_mul] at this
      omega
    rw [Nat.zero_add, cell_of_row w g _ cur e (0, 0) hg, ← Array.getElem?_toList]
    rw [← htake, List.getElem?_take, if_pos hlt2] at h3
    exact h3
end

/-- append(out, x), an element of several cells; what the append leaves of other blocks -/
theorem appG {P : Program} {W : World} {ops : Array Oper} {rest : List Oper} {o : Oper} {a : Act} {Q : Exit → Act → World → Prop} (hgd : o.guard = none) (s x : Operand) (t : TypeId)
    (ho : o.op = .call { callee := .builtin .append, args := #[s, x], argTypes := #[t, t] })
    (base : Nat) (e : TypeId) (z : Value) (size bytes : Nat) (ht : P.underlying t = some (.slice e)) (hi : (P.info? e).map (fun i => (i.zero, i.size, i.bytes)) = some (some z, size, bytes))
    (hzs : z.cells.size = size) (hsz : 0 < size) (us : List Value) (hus : us.length = size) (hone : ∀ u ∈ us, u.oneCell' = true)
    (v : Value) (n : Nat) (xs : List Value) (hs : a.eval s = v) (b : Nat) (hx : a.eval x = .slice (some ⟨b, 0, none⟩) 1 1)
    (hown : W.ownsRow base e size v n xs) (hc : ∀ j u, us[j]? = some u → W.cell? ⟨b, j, none⟩ = some u)
    (h63 : n + 1 ≤ maxLen) (hbytes : (n + 1) * bytes ≤ 140737488355328) (hbase : base ≤ W.heap.size)
    (h : ∀ v' w', w'.ownsRow base e size v' (n + 1) (xs ++ us) → W.grownBy w' v.ownBlock → (v'.ownBlock = v.ownBlock ∨ v'.ownBlock = some W.heap.size) → wpList P ops Q rest (a.put o.dst v') w') : wpList P ops Q (o :: rest) a W := by
  obtain ⟨i, hi1, hi2, hi3, hi4⟩ := info_parts hi
  refine wpList_append_own_at (P := P) _ hgd s x t ho base e i z size bytes ht hi1 hi2 hi3 hi4 hzs hsz v n xs hs hown ⟨b, 0, none⟩ 1 1 us hx (by omega) (fun j u hj => ?_) hone h63 hbytes hbase ?_
  · have ea : (⟨b, 0, none⟩ : Addr).add j = ⟨b, j, none⟩ := by simp [Addr.add] <;> omega
    rw [ea]
    exact hc j u hj
  · intro v' w' h1 h2 _ h3
    exact h v' w' h1 h2 h3
end Go.Proofs.Ytjabldjffpjkeaa
