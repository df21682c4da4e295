/- A profile cut at a knot, by the program and by the reference. -/
import Derived.Test.YtebdokpokbcgjaaDoorFast
import Derived.Test.YtebdokpokbcgjaaDoorRay2
namespace Go.Proofs.YtebdokpokbcgjaaDoor
set_option linter.unusedSimpArgs false
set_option linter.unusedVariables false
open Go.RowKit

/-- append(out, list...), one cell an element: the row of the call's own grows by the list -/
theorem appN {P : Program} {W : World} {ops : Array Oper} {rest : List Oper} {o : Oper} {a : Act} {Q : Exit → Act → World → Prop} (hgd : o.guard = none) (s x : Operand) (t : TypeId)
    (ho : o.op = .call { callee := .builtin .append, args := #[s, x], argTypes := #[t, t] })
    (base : Nat) (e : TypeId) (z : Value) (bytes : Nat) (ht : P.underlying t = some (.slice e)) (hi : (P.info? e).map (fun i => (i.zero, i.size, i.bytes)) = some (some z, 1, bytes))
    (hzs : z.cells.size = 1) (v : Value) (n : Nat) (xs : List Value) (hs : a.eval s = v) (ad : Addr) (m c : Nat) (news : List Value) (hx : a.eval x = .slice (some ad) m c)
    (hown : W.ownsRow base e 1 v n xs) (hl : news.length = m) (hc : ∀ j u, news[j]? = some u → W.cell? (ad.add j) = some u) (h1 : ∀ u ∈ news, u.oneCell' = true)
    (h63 : n + m ≤ maxLen) (hbytes : (n + m) * bytes ≤ 140737488355328) (hbase : base ≤ W.heap.size)
    (h : ∀ v' w', w'.ownsRow base e 1 v' (n + m) (xs ++ news) → Below base W w' → wpList P ops Q rest (a.put o.dst v') w') : wpList P ops Q (o :: rest) a W := by
  obtain ⟨i, hi1, hi2, hi3, hi4⟩ := info_parts hi
  refine wpList_append_own (P := P) _ hgd s x t ho base e i z 1 bytes ht hi1 hi2 hi3 hi4 hzs (by omega) v n xs hs hown ad m c news hx (by omega) hc h1 h63 hbytes hbase ?_
  intro v' w' h1 h2 _
  exact h v' w' h1 (app_below hown h2 hbase)
theorem own_zero (w : World) : (w.alloc (.cells #[] 2)).ownsRow w.heap.size 2 1 (.slice (some ⟨w.heap.size, 0, none⟩) 0 0) 0 [] := by
  obtain ⟨A', c', e1, hc, h⟩ := OwnI.zero (w := w) (base := w.heap.size) (Nat.le_refl _)
  injection e1 with e1 e2 e3
  subst e1 e3
  simpa using h
theorem cells_of {w : World} {b off c : Nat} {xs : List Int} (h : IntsAt w (some ⟨b, off, none⟩) c xs) (h0 : 0 < xs.length) {W : World} (hW : ∀ b' o', b' < w.heap.size → W.cell? ⟨b', o', none⟩ = w.cell? ⟨b', o', none⟩) :
    ∀ j u, (xs.map (Value.int .i64))[j]? = some u → W.cell? ((⟨b, off, none⟩ : Addr).add j) = some u := by
  intro j u hj
  rw [List.getElem?_map] at hj
  rcases h.2.2 with hn | ⟨b', off', e, hb, hc⟩
  · rw [hn] at h0; exact absurd h0 (by simp)
  · simp only [Option.some.injEq, Addr.mk.injEq, and_true] at e
    obtain ⟨rfl, rfl⟩ := e
    cases hq : xs[j]? with
    | none => rw [hq] at hj; cases hj
    | some y =>
      rw [hq] at hj
      injection hj with hj
      subst hj
      have ea : (⟨b, off, none⟩ : Addr).add j = ⟨b, off + j, none⟩ := by simp [Addr.add]
      rw [ea, hW _ _ hb]
      exact hc j y hq

set_option maxHeartbeats 1000000 in
theorem l01Own_any (A : Option Addr) (c n : Nat) (xs : List Int) (w : World) (hx : IntsAt w A c xs) (hn : n = xs.length) (h0 : 0 < n) (hl : n ≤ 1000) :
    Calls Tryd.prog 84 #[.slice A n c] w fun e w' => (∃ A' c', e = .returned (.slice A' n c') ∧ ResI w' w.heap.size w'.heap.size A' c' xs) ∧ Below w.heap.size w w' := by
  obtain ⟨b, off, x, rfl, hb, hx0, hc0⟩ := at_zero hx (by omega)
  have HC := Lib.hid (cells_of hx (by omega) (W := w.alloc (.cells #[] 2)) (fun b' o' h' => ((Below.refl w.heap.size w).alloc (Nat.le_refl _) _).cell (p := ⟨b', o', none⟩) h'))
  have HN := Lib.hid hn
  clear hx hx0 hc0 hn
  go_enter Tryd.func84, Tryd.ntmps84
  go_wp2_with (at_builtin; refine appN rfl _ _ 22 rfl w.heap.size 2 (.int .i64 0) 8 Tryd.underlying22 infoInt2 rfl _ 0 [] rfl ⟨b, off, none⟩ n c (xs.map (Value.int .i64)) rfl (own_zero _) (by rw [List.length_map]; exact HN.out.symm) ?_ ?_ ?_ ?_ ?_ ?_; (focus exact HC.out); (focus (intro u hu; simp at hu; obtain ⟨y, -, rfl⟩ := hu; rfl)); (focus (unfold maxLen; omega)); (focus omega); (focus simp); intro v2 w2 hown2 hb2)
  obtain ⟨A2, c2', rfl, hc2⟩ := owns_form hown2
  have hr := ResI.of_owns (n := 0 + n) (by simpa using hown2) hc2
  have HR := Lib.hid hr.2
  go_wp2
  go_ret
  exact ⟨⟨A2, c2', by simp, HR.out⟩, Below.trans (by go_grown) hb2⟩
@[go_sem] theorem sliceNil (a : Addr) (n c : Nat) (w : World) : (Sem.run Tryd.prog (binOp BinOp.eql 22 (Value.slice (some a) n c) (Value.slice none 0 0)) w) = .ok (.bool false) w := by kernel_rfl
set_option maxRecDepth 100000 in
set_option maxHeartbeats 1000000 in
theorem clone_any (A : Option Addr) (c n : Nat) (xs : List Int) (w : World) (hx : IntsAt w A c xs) (hn : n = xs.length) (h0 : 0 < n) (hl : n ≤ 1000) :
    Calls Tryd.prog 82 #[.slice A n c] w fun e w' => (∃ A' c', e = .returned (.slice A' n c') ∧ ResI w' w.heap.size w'.heap.size A' c' xs) ∧ Below w.heap.size w w' := by
  obtain ⟨b, off, x, rfl, hb, hx0, hc0⟩ := at_zero hx (by omega)
  have HC := Lib.hid (cells_of hx (by omega) (W := w.alloc (.cells #[] 2)) (fun b' o' h' => ((Below.refl w.heap.size w).alloc (Nat.le_refl _) _).cell (p := ⟨b', o', none⟩) h'))
  have HN := Lib.hid hn
  clear hx hx0 hc0 hn
  go_enter Tryd.func82, Tryd.ntmps82
  go_wp2_with (at_builtin; refine appN rfl _ _ 22 rfl w.heap.size 2 (.int .i64 0) 8 Tryd.underlying22 infoInt2 rfl _ 0 [] rfl ⟨b, off, none⟩ n c (xs.map (Value.int .i64)) rfl (own_zero _) (by rw [List.length_map]; exact HN.out.symm) ?_ ?_ ?_ ?_ ?_ ?_; (focus exact HC.out); (focus (intro u hu; simp at hu; obtain ⟨y, -, rfl⟩ := hu; rfl)); (focus (unfold maxLen; omega)); (focus omega); (focus simp); intro v2 w2 hown2 hb2)
  obtain ⟨A2, c2', rfl, hc2⟩ := owns_form hown2
  have hr := ResI.of_owns (n := 0 + n) (by simpa using hown2) hc2
  have HR := Lib.hid hr.2
  go_wp2
  go_ret
  exact ⟨⟨A2, c2', by simp, HR.out⟩, Below.trans (by go_grown) hb2⟩

@[irreducible] def ctC (ds ss : List Int) (k : Int) : Int := if knotE ds ss k 0 = 0 then (if k = 0 then 5 else 0) else knotE ds ss k 0
@[irreducible] def ctD (ds ss : List Int) (k : Int) : List Int := if knotE ds ss k 0 = 0 ∧ k ≠ 0 then ds.take (k.toNat + 1) else []
@[irreducible] def ctS (ds ss : List Int) (k : Int) : List Int := if knotE ds ss k 0 = 0 ∧ k ≠ 0 then ss.take (k.toNat + 1) else []
theorem ct_ok {ds ss : List Int} {k : Nat} (h0 : knotE ds ss k 0 = 0) (hk : k ≠ 0) : ctC ds ss k = 0 ∧ ctD ds ss k = ds.take (k + 1) ∧ ctS ds ss k = ss.take (k + 1) := by
  unfold ctC ctD ctS
  have : ¬ (k : Int) = 0 := by omega
  simp [h0, this, hk]
theorem ct_zero {ds ss : List Int} (h0 : knotE ds ss 0 0 = 0) : ctC ds ss 0 = 5 ∧ ctD ds ss 0 = [] ∧ ctS ds ss 0 = [] := by
  unfold ctC ctD ctS; simp [h0]
theorem ct_bad {ds ss : List Int} {k : Int} (h0 : knotE ds ss k 0 ≠ 0) : ctC ds ss k = knotE ds ss k 0 ∧ ctD ds ss k = [] ∧ ctS ds ss k = [] := by
  unfold ctC ctD ctS; simp [h0]
theorem ct_len (ds ss : List Int) (k : Int) : (ctD ds ss k).length ≤ 12 ∧ (ctS ds ss k).length ≤ 12 := by
  by_cases h0 : knotE ds ss k 0 = 0
  · obtain ⟨hv, k0, k1⟩ := knot_ok h0
    obtain ⟨l1, l2, l3, l4⟩ := prof_len hv
    unfold ctD ctS
    by_cases h1 : knotE ds ss k 0 = 0 ∧ k ≠ 0
    · rw [if_pos h1, if_pos h1, List.length_take, List.length_take]; omega
    · rw [if_neg h1, if_neg h1]; simp
  · obtain ⟨-, e1, e2⟩ := ct_bad h0
    rw [e1, e2]; simp
end Go.Proofs.YtebdokpokbcgjaaDoor
