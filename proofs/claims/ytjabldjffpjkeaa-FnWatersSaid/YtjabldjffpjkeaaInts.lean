/- Lists of numbers that a call makes: copied, compared, marked, held. -/
import Derived.Test.YtjabldjffpjkeaaMem
import Derived.BigQuiet
import Derived.Deep.QuietTactic
namespace Go.Proofs.Ytjabldjffpjkeaa
set_option linter.unusedSimpArgs false
set_option linter.unusedVariables false
open Go.RowKit

/-- the slice (A, c) reads as xs, and its cells lie in blocks from lo up to hi -/
def IntsIn (w : World) (lo hi : Nat) (A : Option Addr) (c : Nat) (xs : List Int) : Prop :=
  xs.length ≤ c ∧ c ≤ 9223372036854775807 ∧ (xs = [] ∨ ∃ b off, A = some ⟨b, off, none⟩ ∧ lo ≤ b ∧ b < hi ∧ b < w.heap.size ∧ ∀ i x, xs[i]? = some x → w.cell? ⟨b, off + i, none⟩ = some (.int .i64 x))
/-- .. and may be written -/
def ResI (w : World) (lo hi : Nat) (A : Option Addr) (c : Nat) (xs : List Int) : Prop :=
  xs.length ≤ c ∧ c ≤ 9223372036854775807 ∧ (xs = [] ∨ ∃ b off, A = some ⟨b, off, none⟩ ∧ lo ≤ b ∧ b < hi ∧ b < w.heap.size ∧ (∀ o, w.frozen? ⟨b, o, none⟩ = false) ∧ ∀ i x, xs[i]? = some x → w.cell? ⟨b, off + i, none⟩ = some (.int .i64 x))

/-- only blocks from lo up to hi have turned, and none is new -/
structure Chg (lo hi : Nat) (w w' : World) : Prop where
  os : w'.os = w.os
  tape : w'.tape = w.tape
  output : w'.output = w.output
  size : w'.heap.size = w.heap.size
  block : ∀ k, k < lo ∨ hi ≤ k → w'.heap[k]? = w.heap[k]?

section
variable {w w1 : World} {lo hi lo' hi' B : Nat} {A : Option Addr} {c : Nat} {xs : List Int}

theorem IntsIn.at (h : IntsIn w lo hi A c xs) : IntsAt w A c xs := by
  refine ⟨h.1, h.2.1, ?_⟩
  rcases h.2.2 with e | ⟨b, off, e, _, _, hb, hc⟩
  · exact .inl e
  · exact .inr ⟨b, off, e, hb, hc⟩
theorem IntsAt.in_ (h : IntsAt w A c xs) : IntsIn w 0 w.heap.size A c xs := by
  refine ⟨h.1, h.2.1, ?_⟩
  rcases h.2.2 with e | ⟨b, off, e, hb, hc⟩
  · exact .inl e
  · exact .inr ⟨b, off, e, Nat.zero_le _, hb, hb, hc⟩
theorem IntsIn.below (h : IntsIn w lo hi A c xs) (hb : Below B w w1) (hB : hi ≤ B) : IntsIn w1 lo hi A c xs := by
  refine ⟨h.1, h.2.1, ?_⟩
  rcases h.2.2 with e | ⟨b, off, e, h1, h2, h3, hc⟩
  · exact .inl e
  · have := hb.size
    exact .inr ⟨b, off, e, h1, h2, by omega, fun i x hx => (hb.cell (p := ⟨b, off + i, none⟩) (by show b < B; omega)).trans (hc i x hx)⟩
theorem ResI.in_ (h : ResI w lo hi A c xs) : IntsIn w lo hi A c xs := by
  refine ⟨h.1, h.2.1, ?_⟩
  rcases h.2.2 with e | ⟨b, off, e, h1, h2, h3, _, hc⟩
  · exact .inl e
  · exact .inr ⟨b, off, e, h1, h2, h3, hc⟩
theorem ResI.at (h : ResI w lo hi A c xs) : IntsAt w A c xs := h.in_.at
theorem ResI.below (h : ResI w lo hi A c xs) (hb : Below B w w1) (hB : hi ≤ B) : ResI w1 lo hi A c xs := by
  refine ⟨h.1, h.2.1, ?_⟩
  rcases h.2.2 with e | ⟨b, off, e, h1, h2, h3, hf, hc⟩
  · exact .inl e
  · have := hb.size
    exact .inr ⟨b, off, e, h1, h2, by omega, fun o => (hb.frozen (p := ⟨b, o, none⟩) (by show b < B; omega)).trans (hf o), fun i x hx => (hb.cell (p := ⟨b, off + i, none⟩) (by show b < B; omega)).trans (hc i x hx)⟩
theorem ResI.mono (h : ResI w lo hi A c xs) (h1 : lo' ≤ lo) (h2 : hi ≤ hi') : ResI w lo' hi' A c xs := by
  refine ⟨h.1, h.2.1, ?_⟩
  rcases h.2.2 with e | ⟨b, off, e, g1, g2, h3, hf, hc⟩
  · exact .inl e
  · exact .inr ⟨b, off, e, by omega, by omega, h3, hf, hc⟩
theorem ResI.keep (h : ResI w lo hi A c xs) (hs : w.heap.size ≤ w1.heap.size) (hk : ∀ b, lo ≤ b → b < hi → w1.heap[b]? = w.heap[b]?) : ResI w1 lo hi A c xs := by
  refine ⟨h.1, h.2.1, ?_⟩
  rcases h.2.2 with e | ⟨b, off, e, h1, h2, h3, hf, hc⟩
  · exact .inl e
  · exact .inr ⟨b, off, e, h1, h2, by omega, fun o => (World.frozen?_of_block (w := w) (hk b h1 h2)).trans (hf o), fun i x hx => (World.cell?_of_block (w := w) (hk b h1 h2)).trans (hc i x hx)⟩
theorem ResI.set_below {a : Addr} {v : Value} (h : ResI w lo hi A c xs) (ha : a.block < lo ∨ hi ≤ a.block) (hb : Below B (w.setCell a v) w1) (hB : hi ≤ B) : ResI w1 lo hi A c xs :=
  h.keep (by have := hb.size; rw [size_set] at this; exact this) fun b h1 h2 => (hb.block b (by omega)).trans (heap_setCell_other _ _ _ _ (by omega))
theorem ResI.pin {b off : Nat} (h : ResI w lo hi (some ⟨b, off, none⟩) c xs) (hn : xs ≠ []) : lo ≤ b ∧ b < hi ∧ ResI w b (b + 1) (some ⟨b, off, none⟩) c xs := by
  rcases h.2.2 with e | ⟨b', off', e, h1, h2, h3, hf, hc⟩
  · exact absurd e hn
  · simp only [Option.some.injEq, Addr.mk.injEq, and_true] at e
    obtain ⟨rfl, rfl⟩ := e
    exact ⟨h1, h2, h.1, h.2.1, .inr ⟨b, off, rfl, Nat.le_refl _, by omega, h3, hf, hc⟩⟩
theorem ResI.form (h : ResI w lo hi A c xs) (hn : xs ≠ []) : ∃ b off, A = some ⟨b, off, none⟩ := by
  rcases h.2.2 with e | ⟨b, off, e, _⟩
  · exact absurd e hn
  · exact ⟨b, off, e⟩
/-- the blocks from lo up to hi are as they were -/
structure Keep (lo hi : Nat) (w w1 : World) : Prop where
  size : w.heap.size ≤ w1.heap.size
  block : ∀ b, lo ≤ b → b < hi → w1.heap[b]? = w.heap[b]?
theorem Keep.refl (lo hi : Nat) (w : World) : Keep lo hi w w := ⟨Nat.le_refl _, fun _ _ _ => rfl⟩
theorem Keep.set {a : Addr} (h : Keep lo hi w w1) (ha : a.block < lo ∨ hi ≤ a.block) (v : Value) : Keep lo hi w (w1.setCell a v) :=
  ⟨by rw [size_set]; exact h.size, fun b h1 h2 => (heap_setCell_other _ _ _ _ (by omega)).trans (h.block b h1 h2)⟩
theorem Keep.below {w2 : World} (h : Keep lo hi w w1) (hb : Below B w1 w2) (hB : hi ≤ B) : Keep lo hi w w2 :=
  ⟨Nat.le_trans h.size hb.size, fun b h1 h2 => (hb.block b (by omega)).trans (h.block b h1 h2)⟩
theorem Keep.alloc (h : Keep lo hi w w1) (hB : hi ≤ w1.heap.size) (o : Obj) : Keep lo hi w (w1.alloc o) := h.below ((Below.refl _ _).alloc (Nat.le_refl _) o) hB
theorem Keep.drew (h : Keep lo hi w w1) : Keep lo hi w w1.drew := ⟨h.size, h.block⟩
theorem ResI.kept (h : ResI w lo hi A c xs) (k : Keep lo hi w w1) : ResI w1 lo hi A c xs := h.keep k.size k.block
theorem ResI.nil (w : World) (lo hi : Nat) (A : Option Addr) (c : Nat) (hc : c ≤ 9223372036854775807) : ResI w lo hi A c [] := ⟨by simp, hc, .inl rfl⟩
theorem IntsIn.chg (h : IntsIn w lo hi A c xs) (hb : Chg lo' hi' w w1) (hB : hi ≤ lo' ∨ hi' ≤ lo) : IntsIn w1 lo hi A c xs := by
  refine ⟨h.1, h.2.1, ?_⟩
  rcases h.2.2 with e | ⟨b, off, e, h1, h2, h3, hc⟩
  · exact .inl e
  · exact .inr ⟨b, off, e, h1, h2, by rw [hb.size]; exact h3, fun i x hx => (World.cell?_of_block (w := w) (hb.block b (by omega))).trans (hc i x hx)⟩
theorem ResI.chg (h : ResI w lo hi A c xs) (hb : Chg lo' hi' w w1) (hB : hi ≤ lo' ∨ hi' ≤ lo) : ResI w1 lo hi A c xs := by
  refine ⟨h.1, h.2.1, ?_⟩
  rcases h.2.2 with e | ⟨b, off, e, h1, h2, h3, hf, hc⟩
  · exact .inl e
  · exact .inr ⟨b, off, e, h1, h2, by rw [hb.size]; exact h3, fun o => (World.frozen?_of_block (w := w) (hb.block b (by omega))).trans (hf o), fun i x hx => (World.cell?_of_block (w := w) (hb.block b (by omega))).trans (hc i x hx)⟩

theorem Chg.refl (lo hi : Nat) (w : World) : Chg lo hi w w := ⟨rfl, rfl, rfl, rfl, fun _ _ => rfl⟩
theorem Chg.trans {w2 : World} (h : Chg lo hi w w1) (k : Chg lo hi w1 w2) : Chg lo hi w w2 :=
  ⟨k.os.trans h.os, k.tape.trans h.tape, k.output.trans h.output, k.size.trans h.size, fun b hb => (k.block b hb).trans (h.block b hb)⟩
theorem Chg.mono (h : Chg lo hi w w1) (h1 : lo' ≤ lo) (h2 : hi ≤ hi') : Chg lo' hi' w w1 := ⟨h.os, h.tape, h.output, h.size, fun b hb => h.block b (by omega)⟩
theorem Chg.set (h : Chg lo hi w w1) {a : Addr} (ha : lo ≤ a.block) (hb : a.block < hi) (v : Value) : Chg lo hi w (w1.setCell a v) :=
  h.trans ⟨rfl, rfl, rfl, size_set _ _ _, fun k hk => heap_setCell_other _ _ _ _ (by omega)⟩
theorem Chg.below (h : Chg lo hi w w1) (hB : B ≤ lo) : Below B w w1 := ⟨h.os, h.tape, h.output, by rw [h.size]; exact Nat.le_refl _, fun k hk => h.block k (by omega)⟩
theorem Chg.old (h : Chg lo hi w w1) {b : Nat} (hb : b < lo ∨ hi ≤ b) (o : Nat) : w1.cell? ⟨b, o, none⟩ = w.cell? ⟨b, o, none⟩ := World.cell?_of_block (w := w) (h.block b hb)

/-- the own block with N cells that read as xs -/
theorem res_of {g : Nat} (h : Own w lo g xs.length) (hl : g < hi) (hn : xs.length ≤ 9223372036854775807) (hc : ∀ i x, xs[i]? = some x → w.cell? ⟨g, i, none⟩ = some (.int .i64 x)) : ResI w lo hi (some ⟨g, 0, none⟩) xs.length xs :=
  ⟨Nat.le_refl _, hn, .inr ⟨g, 0, rfl, h.lo, hl, h.lt, h.fr, fun i x hx => by rw [Nat.zero_add]; exact hc i x hx⟩⟩

/-- the row that append has grown -/
theorem ResI.of_owns {e : TypeId} {n : Nat} (h : w.ownsRow lo e 1 (.slice A n c) n (xs.map (.int .i64))) (hc0 : c ≤ 9223372036854775807) : n = xs.length ∧ ResI w lo w.heap.size A c xs := by
  have hl := h.1
  simp only [List.length_map, Nat.mul_one] at hl
  subst hl
  refine ⟨rfl, ?_⟩
  rcases h.2 with ⟨hv, hn⟩ | ⟨g, cap, cur, hv, hb, hg, hnc, hcm, hcs, htake⟩
  · have : xs = [] := List.eq_nil_of_length_eq_zero hn
    subst this
    exact ResI.nil _ _ _ _ _ hc0
  · injection hv with h1 h2 h3
    subst h1 h3
    have hlt : g < w.heap.size := by
      rcases Nat.lt_or_ge g w.heap.size with hh | hh
      · exact hh
      · rw [Array.getElem?_eq_none hh] at hg; cases hg
    refine ⟨hnc, hc0, .inr ⟨g, 0, rfl, hb, hlt, hlt, fun o => frozen_of_row w g o cur e hg, fun i x hx => ?_⟩⟩
    have hi := (List.getElem?_eq_some_iff.1 hx).1
    rw [Nat.zero_add, cell_of_row w g i cur e (0, 0) hg, ← Array.getElem?_toList]
    have : (cur.toList.take (xs.length * 1))[i]? = some (.int .i64 x) := by rw [htake, List.getElem?_map, hx]; rfl
    rw [List.getElem?_take, if_pos (by omega)] at this
    exact this
end

theorem vint {k : IntKind} {a b : Int} (h : a = b) : Value.int k a = Value.int k b := by rw [h]

/-- k, k + 1, .. -/
def seqI : Nat → Int → List Int
  | 0, _ => []
  | n + 1, k => k :: seqI n (k + 1)
theorem seqI_len : ∀ (n : Nat) (k : Int), (seqI n k).length = n := by
  intro n
  induction n with
  | zero => intro k; rfl
  | succ n ih => intro k; simp [seqI, ih]
theorem seqI_get : ∀ (n : Nat) (k : Int) (i : Nat), i < n → (seqI n k)[i]? = some (k + i) := by
  intro n
  induction n with
  | zero => intro k i h; omega
  | succ n ih =>
    intro k i h
    cases i with
    | zero => simp [seqI]
    | succ i => simp only [seqI, List.getElem?_cons_succ]; rw [ih _ _ (by omega)]; congr 1; omega


theorem infoInt : (Try.prog.info? 2).map (fun i => (i.zero, i.size, i.bytes)) = some (some (.int .i64 0), 1, 8) := by kernel_rfl





theorem infoInt2 : (Try.prog.info? 2).map (fun i => (i.zero, i.size, i.bytes)) = some (some (.int .i64 0), 1, 8) := by kernel_rfl

/-- v is a row of the call's own (in a block from base on) that holds the numbers L -/
def OwnI (w : World) (base : Nat) (v : Value) (L : List Int) : Prop :=
  ∃ A c, v = .slice A L.length c ∧ c ≤ 9223372036854775807 ∧ w.ownsRow base 2 1 (.slice A L.length c) L.length (L.map (.int .i64))
theorem OwnI.none_ (w : World) (base : Nat) : OwnI w base (.slice none 0 0) [] := ⟨none, 0, rfl, by omega, World.ownsRow_nil _ _ _ _⟩
theorem OwnI.zero {w : World} {base : Nat} (h : base ≤ w.heap.size) : OwnI (w.alloc (.cells #[] 2)) base (.slice (some ⟨w.heap.size, 0, none⟩) 0 0) [] :=
  ⟨_, 0, rfl, by omega, World.ownsRow_lit w #[] 0 h (by unfold maxLen; omega) rfl⟩
theorem OwnI.next {w : World} {base : Nat} {v : Value} {L L' : List Int} {z : Int} (e : L' = L ++ [z]) (h : w.ownsRow base 2 1 v (L.length + 1) (L.map (.int .i64) ++ [.int .i64 z])) : OwnI w base v L' := by
  subst e
  obtain ⟨A, c, rfl, hc⟩ := owns_form h
  exact ⟨A, c, by simp, hc, by simpa using h⟩
theorem OwnI.below {w w1 : World} {base B : Nat} {v : Value} {L : List Int} (h : OwnI w base v L) (hb : Below B w w1) (hB : w.heap.size ≤ B) : OwnI w1 base v L := by
  obtain ⟨A, c, rfl, hc, ho⟩ := h
  exact ⟨A, c, rfl, hc, owns_below ho hb hB⟩
theorem OwnI.res {w : World} {base : Nat} {A : Option Addr} {c n : Nat} {L : List Int} (h : OwnI w base (.slice A n c) L) : ResI w base w.heap.size A c L := by
  obtain ⟨A', c', e, hc, ho⟩ := h
  injection e with e1 e2 e3
  subst e1 e3
  exact (ResI.of_owns ho hc).2

/-- behind a call: the named blocks read as before it -/
theorem lkeep {w W w1 : World} (bs : List Nat) (hn : ∀ b ∈ bs, b < W.heap.size) (hB : Below w.heap.size w W) (hb : Below W.heap.size W w1) :
    Below w.heap.size w w1 ∧ W.heap.size ≤ w1.heap.size ∧ (∀ b o, b ∈ bs → w1.cell? ⟨b, o, none⟩ = W.cell? ⟨b, o, none⟩) ∧ (∀ b o, b ∈ bs → w1.frozen? ⟨b, o, none⟩ = W.frozen? ⟨b, o, none⟩) ∧
    (∀ b, b ∈ bs → b < w1.heap.size) ∧ (∀ b, b ∈ bs → ¬ b = w1.heap.size) := by
  have hs := hb.size
  have h0 := hB.size
  exact ⟨hB.trans (hb.mono (by omega)), by omega, fun b o h => hb.cell (p := ⟨_, o, none⟩) (hn b h), fun b o h => hb.frozen (p := ⟨_, o, none⟩) (hn b h), fun b h => by have := hn b h; omega, fun b h => by have := hn b h; omega⟩
/-- behind a call that writes the blocks from lo up to hi alone -/
theorem ckeep {W w1 : World} {lo hi : Nat} (bs : List Nat) (hn : ∀ b ∈ bs, b < W.heap.size ∧ (b < lo ∨ hi ≤ b)) (hb : Chg lo hi W w1) :
    W.heap.size ≤ w1.heap.size ∧ (∀ b o, b ∈ bs → w1.cell? ⟨b, o, none⟩ = W.cell? ⟨b, o, none⟩) ∧ (∀ b o, b ∈ bs → w1.frozen? ⟨b, o, none⟩ = W.frozen? ⟨b, o, none⟩) ∧
    (∀ b, b ∈ bs → b < w1.heap.size) ∧ (∀ b, b ∈ bs → ¬ b = w1.heap.size) := by
  have hs := hb.size
  exact ⟨by omega, fun b o h => hb.old (hn b h).2 o, fun b o h => World.frozen?_of_block (w := W) (hb.block b (hn b h).2), fun b h => by have := (hn b h).1; omega, fun b h => by have := (hn b h).1; omega⟩
end Go.Proofs.Ytjabldjffpjkeaa
