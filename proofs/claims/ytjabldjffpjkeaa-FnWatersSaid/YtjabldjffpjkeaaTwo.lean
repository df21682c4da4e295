/- Two rows of numbers that a call grows itself, apart from each other and from one block of its own. -/
import Derived.Test.YtjabldjffpjkeaaOwnK
import Derived.Deep.AppendLies
import Derived.Deep.RegionLaw
namespace Go.Proofs.Ytjabldjffpjkeaa
set_option linter.unusedSimpArgs false
set_option linter.unusedVariables false
open Go.RowKit

/-- v1 and v2 are rows of the call's own (from base on), apart from each other and from block xb -/
structure Two (w : World) (base xb : Nat) (v1 v2 : Value) (L1 L2 : List Int) : Prop where
  o1 : OwnI w base v1 L1
  o2 : OwnI w base v2 L2
  n1 : v1.ownBlock ≠ some xb
  n2 : v2.ownBlock ≠ some xb
  ap : ∀ g, v1.ownBlock = some g → v2.ownBlock ≠ some g
/-- what an append leaves as it was: the blocks below base, and xb -/
structure Far (base xb : Nat) (w w1 : World) : Prop where
  os : w1.os = w.os
  tape : w1.tape = w.tape
  output : w1.output = w.output
  size : w.heap.size ≤ w1.heap.size
  block : ∀ b, b < w.heap.size → b < base ∨ b = xb → w1.heap[b]? = w.heap[b]?
section
variable {w w1 W : World} {base xb : Nat} {v v1 v2 v1' : Value} {L L1 L2 : List Int}
theorem Two.symm (h : Two w base xb v1 v2 L1 L2) : Two w base xb v2 v1 L2 L1 := ⟨h.o2, h.o1, h.n2, h.n1, fun g e e' => h.ap g e' e⟩
theorem OwnI.keepX (h : OwnI w base v L) (hn : v.ownBlock ≠ some xb) (k : KeepX base w.heap.size xb w W) : OwnI W base v L := by
  obtain ⟨A, c, rfl, hc, ho⟩ := h
  exact ⟨A, c, rfl, hc, own_keepX ho hn k⟩
theorem Two.keep (h : Two w base xb v1 v2 L1 L2) (k : KeepX base w.heap.size xb w W) : Two W base xb v1 v2 L1 L2 :=
  ⟨h.o1.keepX h.n1 k, h.o2.keepX h.n2 k, h.n1, h.n2, h.ap⟩
theorem OwnI.lt (h : OwnI w base v L) : ∀ g, v.ownBlock = some g → base ≤ g ∧ g < w.heap.size := by
  obtain ⟨A, c, rfl, hc, ho⟩ := h
  exact ho.lt
theorem Two.grown {z : Int} (h : Two w base xb v1 v2 L1 L2) (ho : w1.ownsRow base 2 1 v1' (L1.length + 1) (L1.map (.int .i64) ++ [.int .i64 z])) (hg : w.grownBy w1 v1.ownBlock)
    (hat : v1'.ownBlock = v1.ownBlock ∨ v1'.ownBlock = some w.heap.size) (hx : xb < w.heap.size) : Two w1 base xb v1' v2 (L1 ++ [z]) L2 ∧ Far base xb w w1 := by
  refine ⟨⟨OwnI.next rfl ho, ?_, ne_hat hat h.n1 hx, h.n2, fun g e e' => ?_⟩, ⟨hg.os, hg.tape, hg.output, hg.size, fun b hb hr => hg.block b hb (fun e => ?_)⟩⟩
  · have hl := h.o2.lt
    have hap := h.ap
    obtain ⟨A, c, rfl, hc, h2⟩ := h.o2
    refine ⟨A, c, rfl, hc, h2.kept hg ?_⟩
    rcases hv : (Value.slice A L2.length c).ownBlock with _ | g2
    · exact .inl rfl
    · exact .inr fun e => hap g2 e.symm hv
  · rcases hat with q | q
    · exact h.ap g (by rw [← q]; exact e) e'
    · rw [q] at e
      injection e with e
      subst e
      have := (h.o2.lt _ e').2
      omega
  · rcases hr with hr | hr
    · have := (h.o1.lt b e.symm).1; omega
    · subst hr; exact h.n1 e.symm
theorem Far.cell (h : Far base xb w w1) {b o : Nat} (hb : b < w.heap.size) (hr : b < base ∨ b = xb) : w1.cell? ⟨b, o, none⟩ = w.cell? ⟨b, o, none⟩ := World.cell?_of_block (w := w) (h.block b hb hr)
theorem Far.frozen (h : Far base xb w w1) {b o : Nat} (hb : b < w.heap.size) (hr : b < base ∨ b = xb) : w1.frozen? ⟨b, o, none⟩ = w.frozen? ⟨b, o, none⟩ := World.frozen?_of_block (w := w) (h.block b hb hr)
/-- the named blocks behind an append -/
theorem fkeep (bs : List Nat) (hn : ∀ b ∈ bs, b < w.heap.size ∧ (b < base ∨ b = xb)) (h : Far base xb w w1) :
    (∀ b o, b ∈ bs → w1.cell? ⟨b, o, none⟩ = w.cell? ⟨b, o, none⟩) ∧ (∀ b o, b ∈ bs → w1.frozen? ⟨b, o, none⟩ = w.frozen? ⟨b, o, none⟩) ∧ (∀ b, b ∈ bs → b < w1.heap.size) ∧ (∀ b, b ∈ bs → ¬ b = w1.heap.size) := by
  have hs := h.size
  exact ⟨fun b o hb => h.cell (hn b hb).1 (hn b hb).2, fun b o hb => h.frozen (hn b hb).1 (hn b hb).2, fun b hb => by have := (hn b hb).1; omega, fun b hb => by have := (hn b hb).1; omega⟩
theorem Far.below {B : Nat} {w0 : World} (h : Far base xb w w1) (hb : Below B w0 w) (h1 : B ≤ base) (h2 : B ≤ w.heap.size) : Below B w0 w1 :=
  ⟨h.os.trans hb.os, h.tape.trans hb.tape, h.output.trans hb.output, Nat.le_trans hb.size h.size, fun k hk => (h.block k (by omega) (by omega)).trans (hb.block k hk)⟩
theorem Two.res {A1 A2 : Option Addr} {c1 c2 n1 n2 : Nat} (h : Two w base xb (.slice A1 n1 c1) (.slice A2 n2 c2) L1 L2) : ResP w base w.heap.size A1 c1 A2 c2 L1 L2 := by
  refine ⟨h.o1.res, h.o2.res, fun _ _ b o b' o' e e' g => ?_⟩
  subst e e' g
  exact h.ap b rfl rfl
theorem Two.len {A1 A2 : Option Addr} {c1 c2 n1 n2 : Nat} (h : Two w base xb (.slice A1 n1 c1) (.slice A2 n2 c2) L1 L2) : n1 = L1.length ∧ n2 = L2.length := by
  obtain ⟨A, c, e, -⟩ := h.o1
  obtain ⟨A', c', e', -⟩ := h.o2
  injection e with e1 e2 e3
  injection e' with e4 e5 e6
  exact ⟨e2, e5⟩
theorem Two.none_ (w : World) (base xb : Nat) : Two w base xb (.slice none 0 0) (.slice none 0 0) [] [] :=
  ⟨OwnI.none_ _ _, OwnI.none_ _ _, by simp [Value.ownBlock], by simp [Value.ownBlock], fun g e => by simp [Value.ownBlock] at e⟩
theorem Two.zero (w : World) (o : Obj) : Two (((w.alloc (.cells #[] 2)).alloc (.cells #[] 2)).alloc o) w.heap.size (w.heap.size + 1 + 1) (.slice (some ⟨w.heap.size, 0, none⟩) 0 0) (.slice (some ⟨w.heap.size + 1, 0, none⟩) 0 0) [] [] := by
  have h1 := OwnI.zero (w := w) (base := w.heap.size) (Nat.le_refl _)
  have h2 := OwnI.zero (w := w.alloc (.cells #[] 2)) (base := w.heap.size) (by simp)
  have e2 : (w.alloc (.cells #[] 2)).heap.size = w.heap.size + 1 := by simp
  rw [e2] at h2
  refine ⟨?_, ?_, by simp [Value.ownBlock]; omega, by simp [Value.ownBlock], fun g e => ?_⟩
  · have h3 := h1.below ((Below.refl (w.alloc (.cells #[] 2)).heap.size _).alloc (Nat.le_refl _) (.cells #[] 2)) (Nat.le_refl _)
    exact h3.below ((Below.refl ((w.alloc (.cells #[] 2)).alloc (.cells #[] 2)).heap.size _).alloc (Nat.le_refl _) o) (Nat.le_refl _)
  · exact h2.below ((Below.refl ((w.alloc (.cells #[] 2)).alloc (.cells #[] 2)).heap.size _).alloc (Nat.le_refl _) o) (Nat.le_refl _)
  · simp only [Value.ownBlock, Option.some.injEq] at e
    subst e
    simp [Value.ownBlock]
end

theorem run_two {o : Oper} {a : Act} {w : World} (s x : Operand) (base xb : Nat) (v1 v2 : Value) (L1 L2 : List Int) (z : Int) (b : Nat) (hc : w.cell? ⟨b, 0, none⟩ = some (.int .i64 z)) (T : Two w base xb v1 v2 L1 L2) (hL : L1.length ≤ 8000000000) (hb : base ≤ w.heap.size) (hxb : xb < w.heap.size) :
    ∃ A c w', (Builtin.append_ #[26, 26] o.type #[v1, .slice (some ⟨b, 0, none⟩) 1 1]).run Try.prog w = .ok (.slice A (L1.length + 1) c) w' ∧ Two w' base xb (.slice A (L1.length + 1) c) v2 (L1 ++ [z]) L2 ∧ Far base xb w w' := by
  obtain ⟨i, hi1, hi2, hi3, hi4⟩ := info_parts infoInt2
  obtain ⟨A1, c1, rfl, hc1, ho⟩ := T.o1
  obtain ⟨v', w', hr, h2, h3, h4, h5⟩ := run_append_own_at (P := Try.prog) w base 26 o.type 2 i (.int .i64 0) 1 8 Try.underlying26 hi1 hi2 hi3 hi4 rfl (by omega) _ _ _ ho ⟨b, 0, none⟩ 1 1 [.int .i64 z] rfl
    (fun j u hj => by
      match j, hj with
      | 0, hj =>
        simp at hj
        subst hj
        simpa [Addr.add] using hc
      | j + 1, hj => simp at hj) (by intro u hu; simp at hu; subst hu; rfl) (by unfold maxLen; omega) (by omega) hb
  obtain ⟨A, c, rfl, hc⟩ := owns_form h2
  obtain ⟨g1, g2⟩ := T.grown h2 h3 h5 hxb
  exact ⟨A, c, w', hr, g1, g2⟩

/-- append(v1, z) at the list of a plain region -/
theorem listTwo {ops : Array Oper} {rest : List Oper} {o : Oper} {a : Act} {w : World} {Q : Exit → Act → World → Prop} (hgd : o.guard = none) (s x : Operand)
    (ho : o.op = .call { callee := .builtin .append, args := #[s, x], argTypes := #[26, 26] })
    (base xb : Nat) (v1 v2 : Value) (L1 L2 : List Int) (z : Int) (b : Nat) (hs : a.eval s = v1) (hx : a.eval x = .slice (some ⟨b, 0, none⟩) 1 1) (hc : w.cell? ⟨b, 0, none⟩ = some (.int .i64 z)) (T : Two w base xb v1 v2 L1 L2) (hL : L1.length ≤ 8000000000) (hb : base ≤ w.heap.size) (hxb : xb < w.heap.size)
    (h : ∀ A c w', Two w' base xb (.slice A (L1.length + 1) c) v2 (L1 ++ [z]) L2 → Far base xb w w' → wpList Try.prog ops Q rest (a.put o.dst (.slice A (L1.length + 1) c)) w') : wpList Try.prog ops Q (o :: rest) a w := by
  refine wpList_plain hgd fun K hK => ?_
  obtain ⟨A, c, w', hr, h2, h3⟩ := run_two (o := o) (a := a) s x base xb v1 v2 L1 L2 z b hc T hL hb hxb
  unfold Oper.wp execOp
  simp only [ho, resolve, invoke, builtin, Sem.run_bind, Sem.run_pure, Result.andThen_ok, List.map_toArray, List.map_cons, List.map_nil, hs, hx, hr]
  exact hK _ _ (h A c w' h2 h3)
/-- append(v1, z) as a step of a region that draws its order -/
theorem stepTwo {ops : Array Oper} {o : Oper} {a : Act} {w : World} {K : Act → World → Prop} {Q : Exit → Act → World → Prop} {E : Prop} (hgd : o.guard = none) (s x : Operand)
    (ho : o.op = .call { callee := .builtin .append, args := #[s, x], argTypes := #[26, 26] })
    (base xb : Nat) (v1 v2 : Value) (L1 L2 : List Int) (z : Int) (b : Nat) (hs : a.eval s = v1) (hx : a.eval x = .slice (some ⟨b, 0, none⟩) 1 1) (hc : w.cell? ⟨b, 0, none⟩ = some (.int .i64 z)) (T : Two w base xb v1 v2 L1 L2) (hL : L1.length ≤ 8000000000) (hb : base ≤ w.heap.size) (hxb : xb < w.heap.size)
    (h : ∀ A c w', Two w' base xb (.slice A (L1.length + 1) c) v2 (L1 ++ [z]) L2 → Far base xb w w' → K (a.put o.dst (.slice A (L1.length + 1) c)) w') :
    if Region.wanted o (yielded ops a.tmps) = true then Oper.wp Try.prog o a w K Q else E := by
  have hw : Region.wanted o (yielded ops a.tmps) = true := by simp [Region.wanted, hgd]
  rw [if_pos hw]
  obtain ⟨A, c, w', hr, h2, h3⟩ := run_two (o := o) (a := a) s x base xb v1 v2 L1 L2 z b hc T hL hb hxb
  unfold Oper.wp execOp
  simp only [ho, resolve, invoke, builtin, Sem.run_bind, Sem.run_pure, Result.andThen_ok, List.map_toArray, List.map_cons, List.map_nil, hs, hx, hr]
  exact h A c w' h2 h3
end Go.Proofs.Ytjabldjffpjkeaa
