/- Lists of texts: rows of strings that a call makes; joined texts; plain. -/
import Derived.Test.YtebdokpokbcgjaaDoorDec
import Derived.Test.YtebdokpokbcgjaaDoorOwnK
namespace Go.Proofs.YtebdokpokbcgjaaDoor
set_option linter.unusedSimpArgs false
set_option linter.unusedVariables false
open Go.RowKit

theorem infoStr : (Tryd.prog.info? 9).map (fun i => (i.zero, i.size, i.bytes)) = some (some (.string ⟨#[]⟩), 1, 16) := by kernel_rfl
/-- v is a row of the call's own with these texts -/
def OwnT (w : World) (base : Nat) (v : Value) (L : List (List UInt8)) : Prop := ∃ A c, v = .slice A L.length c ∧ c ≤ 9223372036854775807 ∧ w.ownsRow base 9 1 v L.length (L.map strL)
theorem OwnT.none_ (w : World) (base : Nat) : OwnT w base (.slice none 0 0) [] := ⟨none, 0, rfl, by omega, World.ownsRow_nil _ _ _ _⟩
theorem OwnT.below {w w1 : World} {base B : Nat} {v : Value} {L : List (List UInt8)} (h : OwnT w base v L) (hb : Below B w w1) (hB : w.heap.size ≤ B) : OwnT w1 base v L := by
  obtain ⟨A, c, e, hc, ho⟩ := h
  exact ⟨A, c, e, hc, owns_below ho hb hB⟩
theorem OwnT.zero {w : World} {base : Nat} (h : base ≤ w.heap.size) : OwnT (w.alloc (.cells #[] 9)) base (.slice (some ⟨w.heap.size, 0, none⟩) 0 0) [] :=
  ⟨_, 0, rfl, by omega, World.ownsRow_made w #[] 0 h (by unfold maxLen; omega) (by simp)⟩

theorem run_str {o : Oper} {w : World} (base : Nat) (v : Value) (L : List (List UInt8)) (z : List UInt8) (b : Nat) (hc : w.cell? ⟨b, 0, none⟩ = some (strL z)) (T : OwnT w base v L) (hL : L.length ≤ 8000000000) (hb : base ≤ w.heap.size) :
    ∃ A c w', (Builtin.append_ #[68, 68] o.type #[v, .slice (some ⟨b, 0, none⟩) 1 1]).run Tryd.prog w = .ok (.slice A (L.length + 1) c) w' ∧ OwnT w' base (.slice A (L.length + 1) c) (L ++ [z]) ∧ Below base w w' := by
  obtain ⟨i, hi1, hi2, hi3, hi4⟩ := info_parts infoStr
  obtain ⟨A1, c1, rfl, hc1, ho⟩ := T
  obtain ⟨v', w', hr, h2, h3, h4, h5⟩ := run_append_own_at (P := Tryd.prog) w base 68 o.type 9 i (.string ⟨#[]⟩) 1 16 Tryd.underlying68 hi1 hi2 hi3 hi4 rfl (by omega) _ _ _ ho ⟨b, 0, none⟩ 1 1 [strL z] rfl
    (fun j u hj => by
      match j, hj with
      | 0, hj =>
        simp at hj
        subst hj
        simpa [Addr.add] using hc
      | j + 1, hj => simp at hj) (by intro u hu; simp at hu; subst hu; rfl) (by unfold maxLen; omega) (by omega) hb
  obtain ⟨A, c, rfl, hc⟩ := owns_form h2
  exact ⟨A, c, w', hr, ⟨A, c, by simp, hc, by simpa using h2⟩, app_below ho h3 hb⟩

/-- append(v, z) at the list of a plain region -/
theorem listT {ops : Array Oper} {rest : List Oper} {o : Oper} {a : Act} {w : World} {Q : Exit → Act → World → Prop} (hgd : o.guard = none) (s x : Operand)
    (ho : o.op = .call { callee := .builtin .append, args := #[s, x], argTypes := #[68, 68] })
    (base : Nat) (v : Value) (L : List (List UInt8)) (z : List UInt8) (b : Nat) (hs : a.eval s = v) (hx : a.eval x = .slice (some ⟨b, 0, none⟩) 1 1) (hc : w.cell? ⟨b, 0, none⟩ = some (strL z)) (T : OwnT w base v L) (hL : L.length ≤ 8000000000) (hb : base ≤ w.heap.size)
    (h : ∀ A c w', OwnT w' base (.slice A (L.length + 1) c) (L ++ [z]) → Below base w w' → wpList Tryd.prog ops Q rest (a.put o.dst (.slice A (L.length + 1) c)) w') : wpList Tryd.prog ops Q (o :: rest) a w := by
  refine wpList_plain hgd fun K hK => ?_
  obtain ⟨A, c, w', hr, h2, h3⟩ := run_str (o := o) base v L z b hc T hL hb
  unfold Oper.wp execOp
  simp only [ho, resolve, invoke, builtin, Sem.run_bind, Sem.run_pure, Result.andThen_ok, List.map_toArray, List.map_cons, List.map_nil, hs, hx, hr]
  exact hK _ _ (h A c w' h2 h3)
/-- append(v, z) as a step of a region that draws its order -/
theorem stepT {ops : Array Oper} {o : Oper} {a : Act} {w : World} {K : Act → World → Prop} {Q : Exit → Act → World → Prop} {E : Prop} (hgd : o.guard = none) (s x : Operand)
    (ho : o.op = .call { callee := .builtin .append, args := #[s, x], argTypes := #[68, 68] })
    (base : Nat) (v : Value) (L : List (List UInt8)) (z : List UInt8) (b : Nat) (hs : a.eval s = v) (hx : a.eval x = .slice (some ⟨b, 0, none⟩) 1 1) (hc : w.cell? ⟨b, 0, none⟩ = some (strL z)) (T : OwnT w base v L) (hL : L.length ≤ 8000000000) (hb : base ≤ w.heap.size)
    (h : ∀ A c w', OwnT w' base (.slice A (L.length + 1) c) (L ++ [z]) → Below base w w' → K (a.put o.dst (.slice A (L.length + 1) c)) w') :
    if Region.wanted o (yielded ops a.tmps) = true then Oper.wp Tryd.prog o a w K Q else E := by
  have hw : Region.wanted o (yielded ops a.tmps) = true := by simp [Region.wanted, hgd]
  rw [if_pos hw]
  obtain ⟨A, c, w', hr, h2, h3⟩ := run_str (o := o) base v L z b hc T hL hb
  unfold Oper.wp execOp
  simp only [ho, resolve, invoke, builtin, Sem.run_bind, Sem.run_pure, Result.andThen_ok, List.map_toArray, List.map_cons, List.map_nil, hs, hx, hr]
  exact h A c w' h2 h3

/-- the texts of a row, for strings.Join -/
theorem OwnT.cells {w : World} {base c n : Nat} {A : Option Addr} {L : List (List UInt8)} (h : OwnT w base (.slice A n c) L) (h0 : 0 < L.length) :
    ∃ g, A = some ⟨g, 0, none⟩ ∧ n = L.length ∧ base ≤ g ∧ g < w.heap.size ∧ L.length ≤ c ∧ ∀ (j : Nat) (x : ByteArray), (L.map fun l => (⟨l.toArray⟩ : ByteArray))[j]? = some x → w.cell? ⟨g, 0 + j, none⟩ = some (.string x) := by
  obtain ⟨A', c', e, hc, ho⟩ := h
  simp only [Value.slice.injEq] at e
  obtain ⟨rfl, rfl, rfl⟩ := e
  have hf : (L.map fun l => [strL l]).flatten = L.map strL := by
    clear ho h0 hc
    induction L with
    | nil => rfl
    | cons x r ih => rw [List.map_cons, List.flatten_cons, ih]; rfl
  have hk : OwnK w base 9 1 (.slice A L.length c) (L.map fun l => [strL l]) := ⟨A, c, by rw [List.length_map], hc, by rw [List.length_map, hf]; exact ho, fun x hx => by rw [List.mem_map] at hx; obtain ⟨l, -, rfl⟩ := hx; rfl⟩
  obtain ⟨-, hr⟩ := hk.res
  rcases hr.2.2 with e | ⟨b, off, rfl, h1, h2, -, -, h3⟩
  · have := congrArg List.length e
    rw [List.length_map, List.length_nil] at this
    omega
  · have ho0 : off = 0 := by
      rcases ho.2 with ⟨e, -⟩ | ⟨g, cap, cur, e, -⟩
      · simp at e
      · simp only [Value.slice.injEq, Option.some.injEq, Addr.mk.injEq] at e
        exact e.1.2.1
    subst ho0
    have hl := hr.1
    rw [List.length_map] at hl
    refine ⟨b, rfl, rfl, h1, h2, hl, fun j x hx => ?_⟩
    rw [List.getElem?_map] at hx
    cases hj : L[j]? with
    | none => rw [hj] at hx; simp at hx
    | some l =>
      rw [hj] at hx
      simp at hx
      subst hx
      have := h3 j [strL l] 0 (strL l) (by rw [List.getElem?_map, hj]; rfl) rfl
      simpa using this

/-- strings.Join over a row of the call's own -/
theorem join_any (w : World) (base n c : Nat) (A : Option Addr) (L : List (List UInt8)) (sep : List UInt8) (h : OwnT w base (.slice A n c) L) (h0 : 0 < L.length) (hn : L.length ≤ 8000000000) (hlen : (Lib.join L sep).length ≤ 140737488355328) :
    Calls Tryd.prog 53 #[.slice A n c, strL sep] w fun e w' => e = .returned (strL (Lib.join L sep)) ∧ Below w.heap.size w w' := by
  obtain ⟨A', c', e, hc', ho⟩ := id h
  simp only [Value.slice.injEq] at e
  obtain ⟨rfl, rfl, rfl⟩ := e
  obtain ⟨g, rfl, -, h1, h2, h3, h4⟩ := h.cells h0
  have e1 : (L.map fun l => (⟨l.toArray⟩ : ByteArray)).length = L.length := List.length_map ..
  have e2 : (L.map fun l => (⟨l.toArray⟩ : ByteArray)).map (·.data.toList) = L := by rw [List.map_map]; exact List.map_id L
  have q := Tryd.strings_Join g 0 c (L.map fun l => (⟨l.toArray⟩ : ByteArray)) ⟨sep.toArray⟩ w h4 h2 (by rw [e1]; omega) (by rw [e1]; exact h3) (by rw [e2]; exact hlen)
  rw [e1, e2] at q
  exact q

theorem join_snoc (xs : List (List UInt8)) (y sep : List UInt8) : Lib.join (xs ++ [y]) sep = if xs = [] then y else Lib.join xs sep ++ sep ++ y := by
  cases xs with
  | nil => rw [List.nil_append, Lib.join_one, if_pos rfl]
  | cons x r =>
    rw [if_neg (by simp), List.cons_append, Lib.join_cons, Lib.join_cons]
    simp [Lib.joinTail]
theorem join_len {sep : List UInt8} {m : Nat} : ∀ (xs : List (List UInt8)), (∀ x ∈ xs, x.length ≤ m) → (Lib.join xs sep).length ≤ xs.length * (m + sep.length) := by
  intro xs
  cases xs with
  | nil => intro _; simp [Lib.join_nil]
  | cons x r =>
    intro h
    rw [Lib.join_cons, List.length_append, List.length_cons, Nat.succ_mul]
    have h1 := h x (by simp)
    have h2 : (Lib.joinTail sep r).length ≤ r.length * (m + sep.length) := by
      have : ∀ r : List (List UInt8), (∀ x ∈ r, x.length ≤ m) → (Lib.joinTail sep r).length ≤ r.length * (m + sep.length) := by
        intro r
        induction r with
        | nil => intro _; simp [Lib.joinTail]
        | cons y r ih =>
          intro h
          have e : Lib.joinTail sep (y :: r) = sep ++ y ++ Lib.joinTail sep r := by simp [Lib.joinTail]
          rw [e, List.length_append, List.length_append, List.length_cons, Nat.succ_mul]
          have := h y (by simp)
          have := ih (fun x hx => h x (by simp [hx]))
          omega
      exact this r (fun x hx => h x (by simp [hx]))
    omega
end Go.Proofs.YtebdokpokbcgjaaDoor
