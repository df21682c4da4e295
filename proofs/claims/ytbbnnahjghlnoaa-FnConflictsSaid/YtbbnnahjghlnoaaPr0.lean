/- Lists of pairs: rows whose elements are rows of two numbers, each in a block of its own. -/
import Derived.Test.YtbbnnahjghlnoaaOwnK
namespace Go.Proofs.Ytbbnnahjghlnoaa
set_option linter.unusedSimpArgs false
set_option linter.unusedVariables false
open Go.RowKit

/-- the element that stands for the row of two numbers in block b -/
def prE (b : Nat) : List Value := [.slice (some ⟨b, 0, none⟩) 2 2]
/-- these blocks, none twice, hold these pairs -/
structure InP (w : World) (lo hi : Nat) (bs : List Nat) (ps : List (Int × Int)) : Prop where
  len : bs.length = ps.length
  ok : ∀ (i : Nat) b p, bs[i]? = some b → ps[i]? = some p → lo ≤ b ∧ b < hi ∧ b < w.heap.size ∧ (∀ o, w.frozen? ⟨b, o, none⟩ = false) ∧ w.cell? ⟨b, 0, none⟩ = some (.int .i64 p.1) ∧ w.cell? ⟨b, 1, none⟩ = some (.int .i64 p.2)
  inj : ∀ (i j : Nat) b, bs[i]? = some b → bs[j]? = some b → i = j
section
variable {w w1 W w6 : World} {lo hi lo' hi' B base c : Nat} {A : Option Addr} {bs : List Nat} {ps ps' : List (Int × Int)}
theorem InP.nil (w : World) (lo hi : Nat) : InP w lo hi [] [] := ⟨rfl, fun i b p h => by simp at h, fun i j b h => by simp at h⟩
theorem InP.mem (h : InP w lo hi bs ps) {b : Nat} (hb : b ∈ bs) : lo ≤ b ∧ b < hi ∧ b < w.heap.size := by
  obtain ⟨i, hi_, e⟩ := List.mem_iff_getElem.1 hb
  have h1 : bs[i]? = some b := by rw [List.getElem?_eq_getElem hi_, e]
  have h2 : i < ps.length := by rw [← h.len]; exact hi_
  obtain ⟨a, b', c, -⟩ := h.ok i b _ h1 (List.getElem?_eq_getElem h2)
  exact ⟨a, b', c⟩
theorem InP.blocks (h : InP w lo hi bs ps) (hs : w.heap.size ≤ w1.heap.size) (hb : ∀ b ∈ bs, w1.heap[b]? = w.heap[b]?) (hlo : lo' ≤ lo) (hhi : hi ≤ hi') : InP w1 lo' hi' bs ps := by
  refine ⟨h.len, fun i b p h1 h2 => ?_, h.inj⟩
  obtain ⟨a1, a2, a3, a4, a5, a6⟩ := h.ok i b p h1 h2
  have e := hb b (List.mem_of_getElem? h1)
  exact ⟨by omega, by omega, by omega, fun o => (World.frozen?_of_block (w := w) e).trans (a4 o), (World.cell?_of_block (w := w) e).trans a5, (World.cell?_of_block (w := w) e).trans a6⟩
theorem InP.below (h : InP w lo hi bs ps) (hb : Below B w w1) (hB : hi ≤ B) : InP w1 lo hi bs ps := h.blocks hb.size (fun b m => hb.block b (by have := h.mem m; omega)) (Nat.le_refl _) (Nat.le_refl _)
theorem InP.chgB (h : InP w lo hi bs ps) (hb : ChgB lo' hi' w w1) (hB : hi ≤ lo' ∨ hi' ≤ lo) : InP w1 lo hi bs ps := h.blocks hb.size (fun b m => hb.block b (h.mem m).2.2 (by have := h.mem m; omega)) (Nat.le_refl _) (Nat.le_refl _)
theorem InP.keep (h : InP w lo hi bs ps) (k : Keep lo hi w w1) : InP w1 lo hi bs ps := h.blocks k.size (fun b m => k.block b (h.mem m).1 (h.mem m).2.1) (Nat.le_refl _) (Nat.le_refl _)
theorem InP.ints (h : InP w lo hi bs ps) {i b : Nat} {p : Int × Int} (h1 : bs[i]? = some b) (h2 : ps[i]? = some p) : IntsAt w (some ⟨b, 0, none⟩) 2 [p.1, p.2] := by
  obtain ⟨-, -, a3, -, a5, a6⟩ := h.ok i b p h1 h2
  refine ⟨by simp, by omega, .inr ⟨b, 0, rfl, a3, fun j z hz => ?_⟩⟩
  rcases j with _ | _ | j
  · simp at hz; subst hz; simpa using a5
  · simp at hz; subst hz; simpa using a6
  · simp at hz
theorem InP.res (h : InP w lo hi bs ps) {i b : Nat} {p : Int × Int} (h1 : bs[i]? = some b) (h2 : ps[i]? = some p) : ResI w b (b + 1) (some ⟨b, 0, none⟩) 2 [p.1, p.2] := by
  obtain ⟨-, -, a3, a4, a5, a6⟩ := h.ok i b p h1 h2
  refine ⟨by simp, by omega, .inr ⟨b, 0, rfl, Nat.le_refl _, by omega, a3, a4, fun j z hz => ?_⟩⟩
  rcases j with _ | _ | j
  · simp at hz; subst hz; simpa using a5
  · simp at hz; subst hz; simpa using a6
  · simp at hz
/-- one row turned -/
theorem InP.set (h : InP w lo hi bs ps) {i b : Nat} {x y : Int} (h1 : bs[i]? = some b) (hc : Chg b (b + 1) w w1) (hr : ResI w1 b (b + 1) (some ⟨b, 0, none⟩) 2 [x, y]) : InP w1 lo hi bs (ps.set i (x, y)) := by
  refine ⟨by rw [List.length_set]; exact h.len, fun j b' p g1 g2 => ?_, h.inj⟩
  by_cases e : j = i
  · subst e
    rw [h1] at g1; injection g1 with g1; subst g1
    have hj : j < ps.length := by rw [← h.len]; exact (List.getElem?_eq_some_iff.1 h1).1
    rw [List.getElem?_set_self hj] at g2; injection g2 with g2; subst g2
    obtain ⟨a1, a2, a3, -⟩ := h.ok j b _ h1 (List.getElem?_eq_getElem hj)
    rcases hr.2.2 with e | ⟨b2, o2, e, q1, q2, q3, q4, q5⟩
    · simp at e
    · simp only [Option.some.injEq, Addr.mk.injEq, and_true] at e
      obtain ⟨rfl, rfl⟩ := e
      exact ⟨a1, a2, q3, q4, by have := q5 0 x rfl; simpa using this, by have := q5 1 y rfl; simpa using this⟩
  · rw [List.getElem?_set_ne (fun q => e q.symm)] at g2
    obtain ⟨a1, a2, a3, a4, a5, a6⟩ := h.ok j b' p g1 g2
    have hne : b' ≠ b := fun q => e (h.inj j i b' g1 (by rw [q]; exact h1))
    have hk := hc.block b' (by omega)
    exact ⟨a1, a2, by rw [hc.size]; exact a3, fun o => (World.frozen?_of_block (w := w) hk).trans (a4 o), (World.cell?_of_block (w := w) hk).trans a5, (World.cell?_of_block (w := w) hk).trans a6⟩
/-- the slice with address A and capacity c reads as these pairs, its own block and those of the pairs from lo up to hi -/
def ResPP (w : World) (lo hi : Nat) (A : Option Addr) (c : Nat) (ps : List (Int × Int)) : Prop :=
  ∃ bs, ResK w lo hi A c 1 (bs.map prE) ∧ InP w lo hi bs ps ∧ ∀ b ∈ bs, ∀ off, A ≠ some ⟨b, off, none⟩
theorem ResPP.nil (w : World) (lo hi : Nat) (A : Option Addr) (c : Nat) (hc : c ≤ 9223372036854775807) : ResPP w lo hi A c [] := ⟨[], ResK.nil _ _ _ _ _ _ hc, InP.nil _ _ _, fun b h => by simp at h⟩
theorem ResPP.below (h : ResPP w lo hi A c ps) (hb : Below B w w1) (hB : hi ≤ B) : ResPP w1 lo hi A c ps := by
  obtain ⟨bs, h1, h2, h3⟩ := h; exact ⟨bs, h1.below hb hB, h2.below hb hB, h3⟩
theorem ResPP.chgB (h : ResPP w lo hi A c ps) (hb : ChgB lo' hi' w w1) (hB : hi ≤ lo' ∨ hi' ≤ lo) : ResPP w1 lo hi A c ps := by
  obtain ⟨bs, h1, h2, h3⟩ := h; exact ⟨bs, h1.chgB hb hB, h2.chgB hb hB, h3⟩
theorem ResPP.chg (h : ResPP w lo hi A c ps) (hb : Chg lo' hi' w w1) (hB : hi ≤ lo' ∨ hi' ≤ lo) : ResPP w1 lo hi A c ps := h.chgB hb.toB hB
theorem ResPP.mono (h : ResPP w lo hi A c ps) (h1 : lo' ≤ lo) (h2 : hi ≤ hi') : ResPP w lo' hi' A c ps := by
  obtain ⟨bs, g1, g2, g3⟩ := h; exact ⟨bs, g1.mono h1 h2, g2.blocks (Nat.le_refl _) (fun _ _ => rfl) h1 h2, g3⟩
theorem ResPP.bd (h : ResPP w lo hi A c ps) : ps.length ≤ c ∧ c ≤ 9223372036854775807 := by
  obtain ⟨bs, h1, h2, h3⟩ := h
  have := h1.1
  rw [List.length_map, h2.len] at this
  exact ⟨this, h1.2.1⟩
theorem pr_get {i b : Nat} (h : bs[i]? = some b) : (bs.map prE)[i]? = some (prE b) := by rw [List.getElem?_map, h]; rfl
theorem ResPP.at_ (h : ResPP w lo hi A c ps) {i : Nat} (hi_ : i < ps.length) :
    ∃ b off g p, A = some ⟨b, off, none⟩ ∧ b < w.heap.size ∧ ps[i]? = some p ∧ g < w.heap.size ∧ w.cell? ⟨b, off + i, none⟩ = some (.slice (some ⟨g, 0, none⟩) 2 2) ∧ w.cell? ⟨g, 0, none⟩ = some (.int .i64 p.1) ∧ w.cell? ⟨g, 1, none⟩ = some (.int .i64 p.2) ∧ IntsAt w (some ⟨g, 0, none⟩) 2 [p.1, p.2] := by
  obtain ⟨bs, h1, h2, h3⟩ := h
  have hl : i < bs.length := by rw [h2.len]; exact hi_
  have e1 := List.getElem?_eq_getElem hl
  have e2 := List.getElem?_eq_getElem hi_
  obtain ⟨b, off, e, rfl, hb, he, hc⟩ := h1.at.at_ (i := i) (by rw [List.length_map]; exact hl)
  rw [pr_get e1] at he
  injection he with he
  subst he
  obtain ⟨a1, a2, a3, a4, a5, a6⟩ := h2.ok i _ _ e1 e2
  exact ⟨b, off, bs[i], ps[i], rfl, hb, e2, a3, by have := hc 0 _ rfl; simpa using this, a5, a6, h2.ints e1 e2⟩
/-- v is a row of the call's own with these pairs -/
def OwnP (w : World) (base : Nat) (e : TypeId) (v : Value) (ps : List (Int × Int)) : Prop :=
  ∃ bs, OwnK w base e 1 v (bs.map prE) ∧ InP w base w.heap.size bs ps ∧ ∀ b ∈ bs, v.ownBlock ≠ some b
theorem OwnP.none_ (w : World) (base : Nat) (e : TypeId) : OwnP w base e (.slice none 0 0) [] := ⟨[], OwnK.none_ _ _ _ _, InP.nil _ _ _, fun b h => by simp at h⟩
theorem OwnP.zero {e : TypeId} (h : base ≤ w.heap.size) : OwnP (w.alloc (.cells #[] e)) base e (.slice (some ⟨w.heap.size, 0, none⟩) 0 0) [] := ⟨[], OwnK.zero h, InP.nil _ _ _, fun b h => by simp at h⟩
theorem OwnP.next {e : TypeId} {v v6 : Value} {bl n : Nat} {x y : Int} (hl : ps' = ps ++ [(x, y)]) (hin : InP w base w.heap.size bs ps) (hne : ∀ b ∈ bs, v.ownBlock ≠ some b) (k : Keep base w.heap.size w W) (h0 : base ≤ w.heap.size) (h1 : w.heap.size ≤ bl) (h2 : bl < W.heap.size)
    (hvb : ∀ b, v.ownBlock = some b → b < w.heap.size) (hf : ∀ o, W.frozen? ⟨bl, o, none⟩ = false) (c0 : W.cell? ⟨bl, 0, none⟩ = some (.int .i64 x)) (c1 : W.cell? ⟨bl, 1, none⟩ = some (.int .i64 y))
    (hg : W.grownBy w6 v.ownBlock) (hat : v6.ownBlock = v.ownBlock ∨ v6.ownBlock = some W.heap.size) (hn : n = bs.length) (ho : w6.ownsRow base e 1 v6 (n + 1) ((bs.map prE).flatten ++ prE bl)) : OwnP w6 base e v6 ps' := by
  subst hl hn
  have hs := hg.size
  have hk := k.size
  have hv0 : v.ownBlock ≠ some bl := fun q => by have := hvb bl q; omega
  refine ⟨bs ++ [bl], ?_, ?_, ?_⟩
  · exact OwnK.next (us := prE bl) (els := bs.map prE) (by simp) (by rw [List.length_map]; exact ho) (fun z hz => by rw [List.mem_map] at hz; obtain ⟨q, -, rfl⟩ := hz; rfl) rfl
  · refine ⟨by simp [hin.len], fun i b p g1 g2 => ?_, fun i j b g1 g2 => ?_⟩
    · rcases Nat.lt_or_ge i bs.length with q | q
      · rw [List.getElem?_append_left q] at g1
        rw [List.getElem?_append_left (by rw [← hin.len]; exact q)] at g2
        have hm := List.mem_of_getElem? g1
        obtain ⟨a1, a2, a3, a4, a5, a6⟩ := hin.ok i b p g1 g2
        have e1 : w6.heap[b]? = w.heap[b]? := (hg.block b (by omega) (fun q => hne b hm q.symm)).trans (k.block b a1 a2)
        exact ⟨a1, by omega, by omega, fun o => (World.frozen?_of_block (w := w) e1).trans (a4 o), (World.cell?_of_block (w := w) e1).trans a5, (World.cell?_of_block (w := w) e1).trans a6⟩
      · have hi0 : i = bs.length := by
          have := (List.getElem?_eq_some_iff.1 g1).1
          simp at this; omega
        subst hi0
        rw [List.getElem?_append_right (Nat.le_refl _)] at g1
        rw [List.getElem?_append_right (by rw [hin.len]; exact Nat.le_refl _), hin.len] at g2
        simp at g1 g2
        subst g1 g2
        have e1 : w6.heap[bl]? = W.heap[bl]? := hg.block bl h2 (fun q => hv0 q.symm)
        exact ⟨by omega, by omega, by omega, fun o => (World.frozen?_of_block (w := W) e1).trans (hf o), (World.cell?_of_block (w := W) e1).trans c0, (World.cell?_of_block (w := W) e1).trans c1⟩
    · have old : ∀ (i : Nat) b, (bs ++ [bl])[i]? = some b → i < bs.length → b < w.heap.size ∧ bs[i]? = some b := fun i b g q => by
        rw [List.getElem?_append_left q] at g
        exact ⟨(hin.mem (List.mem_of_getElem? g)).2.1, g⟩
      have new : ∀ (i : Nat) b, (bs ++ [bl])[i]? = some b → ¬ i < bs.length → i = bs.length ∧ b = bl := fun i b g q => by
        have hi0 : i = bs.length := by
          have := (List.getElem?_eq_some_iff.1 g).1
          simp at this; omega
        subst hi0
        rw [List.getElem?_append_right (Nat.le_refl _)] at g
        simp at g
        exact ⟨rfl, g.symm⟩
      by_cases q1 : i < bs.length <;> by_cases q2 : j < bs.length
      · exact hin.inj i j b (old i b g1 q1).2 (old j b g2 q2).2
      · have := (old i b g1 q1).1; have := (new j b g2 q2).2; omega
      · have := (old j b g2 q2).1; have := (new i b g1 q1).2; omega
      · have := (new i b g1 q1).1; have := (new j b g2 q2).1; omega
  · intro b hb
    rcases List.mem_append.1 hb with m | m
    · rcases hat with q | q
      · rw [q]; exact hne b m
      · rw [q]; intro z; injection z with z; have := hin.mem m; omega
    · simp at m; subst m
      rcases hat with q | q
      · rw [q]; exact hv0
      · rw [q]; intro z; injection z with z; omega
theorem OwnP.res {e : TypeId} {n : Nat} (h : OwnP w base e (.slice A n c) ps) : n = ps.length ∧ ResPP w base w.heap.size A c ps := by
  obtain ⟨bs, h1, h2, h3⟩ := h
  obtain ⟨e1, e2⟩ := h1.res
  rw [List.length_map] at e1
  refine ⟨by rw [e1, h2.len], bs, e2, h2, fun b hb off ha => ?_⟩
  subst ha
  exact h3 b hb rfl
theorem OwnP.below {e : TypeId} {v : Value} (h : OwnP w base e v ps) (hb : Below B w w1) (hB : w.heap.size ≤ B) : OwnP w1 base e v ps := by
  obtain ⟨bs, h1, h2, h3⟩ := h
  exact ⟨bs, h1.below hb hB, (h2.below hb hB).blocks (Nat.le_refl _) (fun _ _ => rfl) (Nat.le_refl _) hb.size, h3⟩
end
end Go.Proofs.Ytbbnnahjghlnoaa
