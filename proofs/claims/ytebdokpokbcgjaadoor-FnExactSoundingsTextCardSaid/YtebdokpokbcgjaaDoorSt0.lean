/- The text of a list of soundings, plain; rows of bytes that a call makes. -/
import Derived.Test.YtebdokpokbcgjaaDoorJn
import Derived.Test.YtebdokpokbcgjaaDoorSnd2
import Derived.Lib.AppendStr
namespace Go.Proofs.YtebdokpokbcgjaaDoor
set_option linter.unusedSimpArgs false
set_option linter.unusedVariables false
open Go.RowKit

theorem st_bd {xs : List Snd} {k : Nat} {x y d e : Int} (hv : sndsB xs = true) (h : xs[k]? = some ⟨x, y, d, e⟩) : (0 ≤ x ∧ x ≤ 10000) ∧ (0 ≤ y ∧ y ≤ 10000) ∧ (-2000 ≤ d ∧ d ≤ 1000000) ∧ (0 ≤ e ∧ e ≤ 5000) := by
  have h1 : xs.all sndP = true := by simp [sndsB] at hv; simpa using hv.1
  have h2 := List.all_eq_true.1 h1 _ (List.mem_of_getElem? h)
  simp [sndP, sndB, inB] at h2
  omega
theorem st_len {xs : List Snd} (h : sndsB xs = true) : xs.length ≤ 200 := by simp [sndsB] at h; exact h.2
/-- the word of one sounding -/
def stW (s : Snd) : List UInt8 := Lib.join ([s.x, s.y, s.d, s.e].map Lib.itoa) [32]
/-- the first words with a separator between them -/
def stJ (xs : List Snd) (k : Nat) : List UInt8 := Lib.join ((xs.take k).map stW) [59]
def stS (xs : List Snd) : List UInt8 := if sndsB xs then stJ xs xs.length else []
theorem st_map {xs : List Snd} {k : Nat} {x : Snd} (h : xs[k]? = some x) : (xs.take (k + 1)).map stW = (xs.take k).map stW ++ [stW x] := by
  rw [List.take_add_one, h, List.map_append]; rfl
theorem st_zero {xs : List Snd} {k : Nat} {x : Snd} (h0 : k = 0) (h : xs[k]? = some x) : stJ xs (k + 1) = stJ xs k ++ stW x := by
  have e : (xs.take k).map stW = [] := by rw [h0]; rfl
  unfold stJ
  rw [st_map h, join_snoc, if_pos e, e]
  rfl
theorem st_next {xs : List Snd} {k : Nat} {x : Snd} (h0 : 0 < k) (h : xs[k]? = some x) : stJ xs (k + 1) = stJ xs k ++ [59] ++ stW x := by
  have hk := (List.getElem?_eq_some_iff.1 h).1
  have e : (xs.take k).map stW ≠ [] := fun q => by have := congrArg List.length q; rw [List.length_map, List.length_take, List.length_nil] at this; omega
  unfold stJ
  rw [st_map h, join_snoc, if_neg e]
theorem four_bd {x y d e : Int} (h : (0 ≤ x ∧ x ≤ 10000) ∧ (0 ≤ y ∧ y ≤ 10000) ∧ (-2000 ≤ d ∧ d ≤ 1000000) ∧ (0 ≤ e ∧ e ≤ 5000)) : ∀ (k : Nat) z, [x, y, d, e][k]? = some z → -9223372036854775807 ≤ z ∧ z ≤ 9223372036854775807 := by
  intro k z hz
  rcases k with _ | _ | _ | _ | k <;> simp at hz <;> subst hz <;> omega
theorem stW_len {s : Snd} (h : (0 ≤ s.x ∧ s.x ≤ 10000) ∧ (0 ≤ s.y ∧ s.y ≤ 10000) ∧ (-2000 ≤ s.d ∧ s.d ≤ 1000000) ∧ (0 ≤ s.e ∧ s.e ≤ 5000)) : (stW s).length ≤ 88 := by
  have h1 := join_len (sep := [32]) (m := 21) ([s.x, s.y, s.d, s.e].map Lib.itoa) (fun l hl => by
    rw [List.mem_map] at hl
    obtain ⟨x, hx, rfl⟩ := hl
    obtain ⟨i, hi, e⟩ := List.mem_iff_getElem.1 hx
    have := four_bd h i x (by rw [List.getElem?_eq_getElem hi, e])
    exact itoa_len (by omega) (by omega))
  simp only [List.length_map, List.length_cons, List.length_nil] at h1
  exact h1
theorem stJ_len {xs : List Snd} {k : Nat} (hv : sndsB xs = true) : (stJ xs k).length ≤ 17800 := by
  have h := join_len (sep := [59]) (m := 88) ((xs.take k).map stW) (fun l hl => by
    rw [List.mem_map] at hl
    obtain ⟨⟨x, y, d, e⟩, hx, rfl⟩ := hl
    obtain ⟨i, hi, e⟩ := List.mem_iff_getElem.1 (List.mem_of_mem_take hx)
    exact stW_len (st_bd hv (k := i) (by rw [List.getElem?_eq_getElem hi, e])))
  rw [List.length_map, List.length_take] at h
  have := st_len hv
  have h2 : min k xs.length * (88 + [(59 : UInt8)].length) ≤ 200 * 89 := Nat.mul_le_mul (by omega) (by simp)
  unfold stJ
  omega
/-- four numbers in a block -/
theorem four_at {W : World} {g : Nat} {a b d e : Int} (hg : g < W.heap.size) (h0 : W.cell? ⟨g, 0, none⟩ = some (.int .i64 a)) (h1 : W.cell? ⟨g, 1, none⟩ = some (.int .i64 b)) (h2 : W.cell? ⟨g, 2, none⟩ = some (.int .i64 d)) (h3 : W.cell? ⟨g, 3, none⟩ = some (.int .i64 e)) :
    IntsAt W (some ⟨g, 0, none⟩) 4 [a, b, d, e] := by
  refine ⟨by simp, by omega, .inr ⟨g, 0, rfl, hg, fun i z hz => ?_⟩⟩
  rcases i with _ | _ | _ | _ | i <;> simp at hz <;> subst hz <;> assumption

/-! rows of bytes -/
def byC (L : List UInt8) : List Value := L.map fun b => .int .u8 (b.toNat : Int)
theorem byC_app (L M : List UInt8) : byC (L ++ M) = byC L ++ byC M := List.map_append
theorem byC_str (L : List UInt8) : Lib.strCells (⟨L.toArray⟩ : ByteArray) = byC L := rfl
theorem infoU8 : (Tryd.prog.info? 5).map (fun i => (i.zero, i.size, i.bytes)) = some (some (.int .u8 0), 1, 1) := by kernel_rfl
/-- v is a row of the call's own with these bytes -/
def OwnB (w : World) (base : Nat) (v : Value) (L : List UInt8) : Prop := ∃ A c, v = .slice A L.length c ∧ c ≤ 9223372036854775807 ∧ w.ownsRow base 5 1 v L.length (byC L)
theorem OwnB.zero {w : World} {base : Nat} (h : base ≤ w.heap.size) : OwnB (w.alloc (.cells #[] 5)) base (.slice (some ⟨w.heap.size, 0, none⟩) 0 0) [] :=
  ⟨_, 0, rfl, by omega, World.ownsRow_made w #[] 0 h (by unfold maxLen; omega) (by simp)⟩
theorem OwnB.below {w w1 : World} {base B : Nat} {v : Value} {L : List UInt8} (h : OwnB w base v L) (hb : Below B w w1) (hB : w.heap.size ≤ B) : OwnB w1 base v L := by
  obtain ⟨A, c, e, hc, ho⟩ := h
  exact ⟨A, c, e, hc, owns_below ho hb hB⟩
theorem OwnB.next {w : World} {base n : Nat} {v : Value} {L M L' : List UInt8} (hL : L' = L ++ M) (h : w.ownsRow base 5 1 v n (byC L ++ byC M)) (hn : n = L.length + M.length) : OwnB w base v L' := by
  subst hL hn
  obtain ⟨A, c, rfl, hc⟩ := owns_form h
  exact ⟨A, c, by rw [List.length_append], hc, by rw [List.length_append, byC_app]; exact h⟩
/-- append(v, s...), s a text, as a step of a region that draws its order -/
theorem stepB {ops : Array Oper} {o : Oper} {a : Act} {w : World} {K : Act → World → Prop} {Q : Exit → Act → World → Prop} {E : Prop} (hgd : o.guard = none) (s x : Operand)
    (ho : o.op = .call { callee := .builtin .append, args := #[s, x], argTypes := #[45, 9] })
    (base : Nat) (v : Value) (L M L' : List UInt8) (hs : a.eval s = v) (hx : a.eval x = strL M) (hE : L' = L ++ M) (T : OwnB w base v L) (hL : L.length + M.length ≤ 100000000000) (hb : base ≤ w.heap.size)
    (h : ∀ A c w', OwnB w' base (.slice A L'.length c) L' → Below base w w' → K (a.put o.dst (.slice A L'.length c)) w') :
    if Region.wanted o (yielded ops a.tmps) = true then Oper.wp Tryd.prog o a w K Q else E := by
  have hw : Region.wanted o (yielded ops a.tmps) = true := by simp [Region.wanted, hgd]
  rw [if_pos hw]
  obtain ⟨i, hi1, hi2, hi3, hi4⟩ := info_parts infoU8
  obtain ⟨A1, c1, rfl, hc1, ho1⟩ := T
  have hsz : (⟨M.toArray⟩ : ByteArray).size = M.length := rfl
  obtain ⟨v', w', hr, h2, h3, -⟩ := Lib.run_append_own_string (P := Tryd.prog) (w := w) base 45 9 o.type 5 i Tryd.underlying45 Tryd.underlying9 hi1 hi2 hi3 hi4 _ _ _ ho1 ⟨M.toArray⟩ (by rw [hsz]; unfold maxLen; omega) (by rw [hsz]; omega) hb
  rw [byC_str] at h2
  have hO := OwnB.next (L' := L') hE h2 (by rw [hsz])
  obtain ⟨A, c, rfl, hc, -⟩ := id hO
  unfold Oper.wp execOp
  simp only [ho, resolve, invoke, builtin, Sem.run_bind, Sem.run_pure, Result.andThen_ok, List.map_toArray, List.map_cons, List.map_nil, hs, hx, hr]
  exact h A c w' hO (app_below ho1 h3 hb)
/-- 'string(v)' of a row of the call's own -/
theorem OwnB.str {w : World} {base n c : Nat} {A : Option Addr} {L : List UInt8} (h : OwnB w base (.slice A n c) L) :
    (convert 45 9 (.slice A n c)).run Tryd.prog w = .ok (strL L) w := by
  obtain ⟨A', c', e, hc', ho⟩ := h
  simp only [Value.slice.injEq] at e
  obtain ⟨rfl, rfl, rfl⟩ := e
  rcases ho.2 with ⟨e, hn⟩ | ⟨g, cap, cur, e, h1, hg, h3, h4, h5, h6⟩
  · simp only [Value.slice.injEq] at e
    obtain ⟨rfl, hl, rfl⟩ := e
    have : L = [] := List.eq_nil_of_length_eq_zero hl
    subst this
    show (convert 45 9 (.slice none 0 0)).run Tryd.prog w = _
    rw [run_convert_bytes_string w 45 9 5 none 0 0 Tryd.underlying45 Tryd.underlying5 Tryd.underlying9]
    simp [Conv.bytesToString]
    rfl
  · simp only [Value.slice.injEq] at e
    obtain ⟨rfl, -, rfl⟩ := e
    refine run_convert_bytes_back w 45 9 5 ⟨g, 0, none⟩ c L Tryd.underlying45 Tryd.underlying5 Tryd.underlying9 fun j hj => ?_
    have hc := ho.cells (g := g) rfl j (.int .u8 (L[j].toNat : Int)) (by unfold byC; rw [List.getElem?_map, List.getElem?_eq_getElem hj]; rfl)
    exact hc
end Go.Proofs.YtebdokpokbcgjaaDoor
