/- Lists put together by the library, and copied by the reference. -/
import Derived.Test.YtjabldjffpjkeaaTwo
import Derived.Lib.AppendZeros
import Derived.Deep.LoopGhost
namespace Go.Proofs.Ytjabldjffpjkeaa
set_option linter.unusedSimpArgs false
set_option linter.unusedVariables false
open Go.RowKit

/-- append(out, list...), one cell an element: the row of the call's own grows by the list -/
theorem appN {P : Program} {W : World} {ops : Array Oper} {rest : List Oper} {o : Oper} {a : Act} {Q : Exit → Act → World → Prop} (hgd : o.guard = none) (s x : Operand) (t : TypeId)
    (ho : o.op = .call { callee := .builtin .append, args := #[s, x], argTypes := #[t, t] })
    (base : Nat) (e : TypeId) (z : Value) (bytes : Nat) (ht : P.underlying t = some (.slice e)) (hi : (P.info? e).map (fun i => (i.zero, i.size, i.bytes)) = some (some z, 1, bytes))
    (hzs : z.cells.size = 1) (v : Value) (n : Nat) (xs : List Value) (hs : a.eval s = v) (ad : Addr) (m c : Nat) (news : List Value) (hx : a.eval x = .slice (some ad) m c)
    (hown : W.ownsRow base e 1 v n xs) (hl : news.length = m) (hc : ∀ j u, news[j]? = some u → W.cell? (ad.add j) = some u) (h1 : ∀ u ∈ news, u.oneCell' = true)
    (h63 : n + m ≤ maxLen) (hbytes : (n + m) * bytes ≤ 140737488355328) (hbase : base ≤ W.heap.size)
    (h : ∀ v' w', w'.ownsRow base e 1 v' (n + m) (xs ++ news) → Below base W w' → wpList P ops Q rest (a.put o.dst v') w') : wpList P ops Q (o :: rest) a W := by
  obtain ⟨i, hi1, hi2, hi3, hi4⟩ := info_parts hi
  refine wpList_append_own (P := P) _ hgd s x t ho base e i z 1 bytes ht hi1 hi2 hi3 hi4 hzs (by omega) v n xs hs hown ad m c news hx (by omega) hc h1 h63 hbytes hbase ?_
  intro v' w' h1 h2 _
  exact h v' w' h1 (app_below hown h2 hbase)
theorem own_zero (w : World) : (w.alloc (.cells #[] 2)).ownsRow w.heap.size 2 1 (.slice (some ⟨w.heap.size, 0, none⟩) 0 0) 0 [] := by
  obtain ⟨A', c', e1, hc, h⟩ := OwnI.zero (w := w) (base := w.heap.size) (Nat.le_refl _)
  injection e1 with e1 e2 e3
  subst e1 e3
  simpa using h
theorem cells_of {w : World} {b off c : Nat} {xs : List Int} (h : IntsAt w (some ⟨b, off, none⟩) c xs) (h0 : 0 < xs.length) {W : World} (hW : ∀ b' o', b' < w.heap.size → W.cell? ⟨b', o', none⟩ = w.cell? ⟨b', o', none⟩) :
    ∀ j u, (xs.map (Value.int .i64))[j]? = some u → W.cell? ((⟨b, off, none⟩ : Addr).add j) = some u := by
  intro j u hj
  rw [List.getElem?_map] at hj
  rcases h.2.2 with hn | ⟨b', off', e, hb, hc⟩
  · rw [hn] at h0; exact absurd h0 (by simp)
  · simp only [Option.some.injEq, Addr.mk.injEq, and_true] at e
    obtain ⟨rfl, rfl⟩ := e
    cases hq : xs[j]? with
    | none => rw [hq] at hj; cases hj
    | some y =>
      rw [hq] at hj
      injection hj with hj
      subst hj
      have ea : (⟨b, off, none⟩ : Addr).add j = ⟨b, off + j, none⟩ := by simp [Addr.add]
      rw [ea, hW _ _ hb]
      exact hc j y hq


set_option maxHeartbeats 2000000 in
theorem grow_any (n : Nat) (w : World) (h0 : 0 < n) (h1 : n ≤ 1000) :
    Calls Try.prog 63 #[.slice none 0 0, .int .i64 n] w fun e w' => (∃ G, e = .returned (.slice (some ⟨w.heap.size, 0, none⟩) 0 G) ∧ w'.ownsRow w.heap.size 2 1 (.slice (some ⟨w.heap.size, 0, none⟩) 0 G) 0 [] ∧ G ≤ 9223372036854775807) ∧ Below w.heap.size w w' := by
  obtain ⟨ii, hi1, hi2, hi3, hi4⟩ := info_parts infoInt2
  have hr : ∀ ty, (Builtin.append_ #[26, 3] ty #[.slice none 0 0, .int .i64 n]).run Try.prog w = .ok (.slice (some ⟨w.heap.size, 0, none⟩) n (grownCap w n 0 2)) (w.drew.alloc (.cells (Builtin.zeroCells (Value.int .i64 0).cells n ++ Builtin.zeroCells (Value.int .i64 0).cells (grownCap w n 0 2 - n)) 2)) := fun ty =>
    Lib.run_append_nil_zeros w 26 3 ty 2 ii (.int .i64 0) .i64 .i64 Try.underlying26 Try.underlying3 hi1 hi2 n h0 (by omega) (by omega) (by rw [hi4]; omega)
  have hG1 := grownCap_ge w n 0 2
  have hG2 := grownCap_le_maxLen w n 0 2 (by unfold maxLen; omega)
  obtain ⟨G, hG⟩ : ∃ G, G = grownCap w n 0 2 := ⟨_, rfl⟩
  rw [← hG] at hr hG1 hG2
  have hG3 : G ≤ 9223372036854775807 := by unfold maxLen at hG2; omega
  have hsz : (Builtin.zeroCells (Value.int .i64 0).cells n ++ Builtin.zeroCells (Value.int .i64 0).cells (G - n)).size = G * 1 := by
    simp [size_zeroCells, Value.cells]; omega
  have how := World.ownsRow_made (base := w.heap.size) (e := 2) (size := 1) w.drew (Builtin.zeroCells (Value.int .i64 0).cells n ++ Builtin.zeroCells (Value.int .i64 0).cells (G - n)) G (by simp) hG2 hsz
  have HO := Lib.hid how
  have hp : (0 : Int) < n := by omega
  have hnn : ¬ (n : Int) < 0 := by omega
  have hr' := hr
  generalize Builtin.zeroCells (Value.int .i64 0).cells n ++ Builtin.zeroCells (Value.int .i64 0).cells (G - n) = Z at hr HO hr' 
  have HR := Lib.hid hr
  clear hr hr' hG hsz how hi1 hi2 hi3 hi4
  go_enter Try.func63, Try.ntmps63
  go_wp2_with (at_builtin; refine Lib.wpList_append_run _ rfl _ _ _ _ rfl _ _ rfl rfl _ _ (HR.out _) ?_)
  go_ret
  exact ⟨⟨G, rfl, HO.out, hG3⟩, by go_grown⟩
set_option maxHeartbeats 4000000 in
theorem concat_any (A1 A2 : Option Addr) (c1 c2 b cb : Nat) (xs ys : List Int) (w : World) (hb : b < w.heap.size) (hc0 : w.cell? ⟨b, 0, none⟩ = some (.slice A1 xs.length c1)) (hc1 : w.cell? ⟨b, 1, none⟩ = some (.slice A2 ys.length c2))
    (hx : IntsAt w A1 c1 xs) (hy : IntsAt w A2 c2 ys) (l1 : 0 < xs.length) (l2 : 0 < ys.length) (l3 : xs.length ≤ 400) (l4 : ys.length ≤ 400) :
    Calls Try.prog 48 #[.slice (some ⟨b, 0, none⟩) 2 cb] w fun e w' => (∃ A' c', e = .returned (.slice A' (xs.length + ys.length) c') ∧ ResI w' w.heap.size w'.heap.size A' c' (xs ++ ys)) ∧ Below w.heap.size w w' := by
  obtain ⟨b1, o1, x0, rfl, hb1, -, -⟩ := at_zero hx l1
  obtain ⟨b2, o2, y0, rfl, hb2, -, -⟩ := at_zero hy l2
  have HX := Lib.hid hx; have HY := Lib.hid hy; clear hx hy
  go_enter Try.func48, Try.ntmps48
  go_wp2_with fail
  go_loop [3, 11] (fun s i => ∃ k : Nat, k ≤ 2 ∧ i = .int .i64 k ∧ s = .int .i64 (if k = 0 then 0 else if k = 1 then (xs.length : Int) else (xs.length : Int) + ys.length)) (fun _ i => 2 - (intOf i).toNat)
  case atStart => exact ⟨0, by omega, rfl, rfl⟩
  case round =>
    obtain ⟨k, hk, rfl, rfl⟩ := hrel
    have p1 : ¬ (xs.length : Int) < 0 := by omega
    have p2 : ¬ (xs.length : Int) + ys.length < 0 := by omega
    have hcase : k = 0 ∨ k = 1 ∨ k = 2 := by omega
    rcases hcase with rfl | rfl | rfl
    · go_wp2_with fail
      go_round
      case rel => exact ⟨1, by omega, rfl, by simp⟩
      case measure => simp [intOf]
    · go_wp2_with fail
      go_round
      case rel => exact ⟨2, by omega, rfl, by simp⟩
      case measure => simp [intOf]
    · have e2 : (if (2 : Nat) = 0 then (0 : Int) else if (2 : Nat) = 1 then (xs.length : Int) else (xs.length : Int) + ys.length) = ((xs.length + ys.length : Nat) : Int) := by simp
      rw [e2]
      go_wp2_with fail
      refine (grow_any _ _ (by omega) (by omega)).mono ?_
      rintro e w1 ⟨⟨G, rfl, ho, hG⟩, hb1'⟩
      have HO := Lib.hid ho; have HB1 := Lib.hid hb1'; clear ho hb1'
      go_wp2_with fail
      go_loopw [6, 27] (fun s i wr => ∃ k : Nat, k ≤ 2 ∧ i = .int .i64 k ∧ Below w.heap.size w wr ∧ OwnI wr w.heap.size s (if k = 0 then [] else if k = 1 then xs else xs ++ ys)) (fun _ i _ => 2 - (intOf i).toNat)
      case atStart => exact ⟨0, by omega, rfl, HB1.out, _, G, rfl, hG, HO.out⟩
      case round =>
        obtain ⟨j, hj, rfl, Br, T⟩ := hrel
        have r0 := (bAt Br (b := b) (o := 0) hb).trans hc0
        have r1 := (bAt Br (b := b) (o := 1) hb).trans hc1
        have lb : b < wr.heap.size := by have := Br.size; omega
        have hcase : j = 0 ∨ j = 1 ∨ j = 2 := by omega
        rcases hcase with rfl | rfl | rfl
        · have T : OwnI wr w.heap.size _ [] := T
          obtain ⟨A4, c4, rfl, hc4, ho4⟩ := T
          have HO4 := Lib.hid ho4; clear ho4
          have HC := Lib.hid (cells_of HX.out l1 (W := wr) (fun b' o' h' => bAt Br h'))
          go_wp2_with (at_builtin; refine appN rfl _ _ 26 rfl w.heap.size 2 (.int .i64 0) 8 Try.underlying26 infoInt2 rfl _ _ _ rfl ⟨b1, o1, none⟩ xs.length c1 (xs.map (Value.int .i64)) rfl HO4.out (by simp) ?_ ?_ ?_ ?_ ?_ ?_; (focus exact HC.out); (focus (intro u hu; simp at hu; obtain ⟨y, -, rfl⟩ := hu; rfl)); (focus (unfold maxLen; first | omega | (simp; omega))); (focus (first | omega | (simp; omega))); (focus exact Br.size); intro v2 w2 hown2 hb2)
          obtain ⟨A2, c2', rfl, hc2⟩ := owns_form hown2
          have hw2 : OwnI w2 w.heap.size (.slice A2 (0 + xs.length) c2') xs := ⟨A2, c2', by simp, hc2, by simpa using hown2⟩
          have HW := Lib.hid hw2; clear hown2 hw2
          go_roundw
          case rel => exact ⟨1, by omega, rfl, Br.trans hb2, by simpa using HW.out⟩
          case measure => simp [intOf]
        · have T : OwnI wr w.heap.size _ xs := T
          obtain ⟨A4, c4, rfl, hc4, ho4⟩ := T
          have HO4 := Lib.hid ho4; clear ho4
          have HC := Lib.hid (cells_of HY.out l2 (W := wr) (fun b' o' h' => bAt Br h'))
          go_wp2_with (at_builtin; refine appN rfl _ _ 26 rfl w.heap.size 2 (.int .i64 0) 8 Try.underlying26 infoInt2 rfl _ _ _ rfl ⟨b2, o2, none⟩ ys.length c2 (ys.map (Value.int .i64)) rfl HO4.out (by simp) ?_ ?_ ?_ ?_ ?_ ?_; (focus exact HC.out); (focus (intro u hu; simp at hu; obtain ⟨y, -, rfl⟩ := hu; rfl)); (focus (unfold maxLen; first | omega | (simp; omega))); (focus (first | omega | (simp; omega))); (focus exact Br.size); intro v2 w2 hown2 hb2)
          obtain ⟨A2, c2', rfl, hc2⟩ := owns_form hown2
          have hw2 : OwnI w2 w.heap.size (.slice A2 (xs.length + ys.length) c2') (xs ++ ys) := ⟨A2, c2', by simp, hc2, by simpa using hown2⟩
          have HW := Lib.hid hw2; clear hown2 hw2
          go_roundw
          case rel => exact ⟨2, by omega, rfl, Br.trans hb2, by simpa using HW.out⟩
          case measure => simp [intOf]
        · have T : OwnI wr w.heap.size _ (xs ++ ys) := T
          obtain ⟨A4, c4, rfl, hc4, ho4⟩ := T
          have hr := Lib.hid (OwnI.res (w := wr) (base := w.heap.size) (n := (xs ++ ys).length) ⟨A4, c4, rfl, hc4, ho4⟩)
          clear ho4
          go_wp2
          go_ret
          exact ⟨⟨A4, c4, by simp, hr.out⟩, Br⟩
set_option maxHeartbeats 1000000 in
theorem own2_any (A : Option Addr) (c : Nat) (xs : List Int) (w : World) (hx : IntsAt w A c xs) (h0 : 0 < xs.length) (hl : xs.length ≤ 1000) :
    Calls Try.prog 50 #[.slice A xs.length c] w fun e w' => (∃ A' c', e = .returned (.slice A' xs.length c') ∧ OwnI w' w.heap.size (.slice A' xs.length c') xs) ∧ Below w.heap.size w w' := by
  obtain ⟨b, off, x, rfl, hb, hx0, hc0⟩ := at_zero hx (by omega)
  have HC := Lib.hid (cells_of hx (by omega) (W := w.alloc (.cells #[] 2)) (fun b' o' h' => ((Below.refl w.heap.size w).alloc (Nat.le_refl _) _).cell (p := ⟨b', o', none⟩) h'))
  clear hx hx0 hc0
  go_enter Try.func50, Try.ntmps50
  go_wp2_with (at_builtin; refine appN rfl _ _ 26 rfl w.heap.size 2 (.int .i64 0) 8 Try.underlying26 infoInt2 rfl _ 0 [] rfl ⟨b, off, none⟩ xs.length c (xs.map (Value.int .i64)) rfl (own_zero _) (by simp) ?_ ?_ ?_ ?_ ?_ ?_; (focus exact HC.out); (focus (intro u hu; simp at hu; obtain ⟨y, -, rfl⟩ := hu; rfl)); (focus (unfold maxLen; omega)); (focus omega); (focus simp); intro v2 w2 hown2 hb2)
  obtain ⟨A2, c2', rfl, hc2⟩ := owns_form hown2
  have ho : OwnI w2 w.heap.size (.slice A2 (0 + xs.length) c2') xs := ⟨A2, c2', by simp, hc2, by simpa using hown2⟩
  rw [Nat.zero_add] at ho
  have HO := Lib.hid ho; clear ho
  go_wp2
  go_ret
  exact ⟨⟨A2, c2', by simp, HO.out⟩, Below.trans (by go_grown) hb2⟩
/-! two rows that grow by lists -/
section
variable {w w1 W : World} {base xb : Nat} {v v1 v2 v1' : Value} {L L1 L2 : List Int}
theorem OwnI.down {base' : Nat} (h : OwnI w base v L) (hb : base' ≤ base) : OwnI w base' v L := by
  obtain ⟨A, c, rfl, hc, h1, h2⟩ := h
  refine ⟨A, c, rfl, hc, h1, ?_⟩
  rcases h2 with h2 | ⟨g, cap, cur, e, hg, h3⟩
  · exact .inl h2
  · exact .inr ⟨g, cap, cur, e, Nat.le_trans hb hg, h3⟩
theorem OwnI.first (h : OwnI w base v L) (hx : xb < base) : Two w base xb v (.slice none 0 0) L [] :=
  ⟨h, OwnI.none_ _ _, fun e => by have := (h.lt _ e).1; omega, by simp [Value.ownBlock], fun g _ => by simp [Value.ownBlock]⟩
theorem Two.add (h : Two W base xb v1 (.slice none 0 0) L1 []) (hb : Below W.heap.size W w1) (o2 : OwnI w1 W.heap.size v2 L2) (hB : base ≤ W.heap.size) (hx : xb < W.heap.size) : Two w1 base xb v1 v2 L1 L2 :=
  ⟨h.o1.below hb (Nat.le_refl _), o2.down hB, h.n1, fun e => by have := (o2.lt _ e).1; omega, fun g e e' => by have := (h.o1.lt _ e).2; have := (o2.lt _ e').1; omega⟩
theorem Two.grownL {news : List Int} (h : Two w base xb v1 v2 L1 L2) (ho : w1.ownsRow base 2 1 v1' (L1.length + news.length) (L1.map (.int .i64) ++ news.map (.int .i64))) (hg : w.grownBy w1 v1.ownBlock)
    (hat : v1'.ownBlock = v1.ownBlock ∨ v1'.ownBlock = some w.heap.size) (hx : xb < w.heap.size) : Two w1 base xb v1' v2 (L1 ++ news) L2 ∧ Far base xb w w1 := by
  have hf : Far base xb w w1 := ⟨hg.os, hg.tape, hg.output, hg.size, fun b hb hr => hg.block b hb (fun e => by
    rcases hr with hr | hr
    · have := (h.o1.lt b e.symm).1; omega
    · subst hr; exact h.n1 e.symm)⟩
  refine ⟨⟨?_, ?_, ne_hat hat h.n1 hx, h.n2, fun g e e' => ?_⟩, hf⟩
  · obtain ⟨A, c, rfl, hc⟩ := owns_form ho
    exact ⟨A, c, by simp, hc, by simpa using ho⟩
  · have hap := h.ap
    obtain ⟨A, c, rfl, hc, h2⟩ := h.o2
    refine ⟨A, c, rfl, hc, h2.kept hg ?_⟩
    rcases hv : (Value.slice A L2.length c).ownBlock with _ | g2
    · exact .inl rfl
    · exact .inr fun e => hap g2 e.symm hv
  · rcases hat with q | q
    · exact h.ap g (by rw [← q]; exact e) e'
    · rw [q] at e
      injection e with e
      subst e
      have := (h.o2.lt _ e').2
      omega
end
theorem stepTwoL {ops : Array Oper} {o : Oper} {a : Act} {w : World} {K : Act → World → Prop} {Q : Exit → Act → World → Prop} {E : Prop} (hgd : o.guard = none) (s x : Operand)
    (ho : o.op = .call { callee := .builtin .append, args := #[s, x], argTypes := #[26, 26] })
    (base xb : Nat) (v1 v2 : Value) (L1 L2 : List Int) (ad : Addr) (c : Nat) (news : List Int) (hs : a.eval s = v1) (hx : a.eval x = .slice (some ad) news.length c) (hc : ∀ j u, (news.map (Value.int .i64))[j]? = some u → w.cell? (ad.add j) = some u)
    (T : Two w base xb v1 v2 L1 L2) (hL : L1.length ≤ 1000000) (hN : news.length ≤ 1000000) (hb : base ≤ w.heap.size) (hxb : xb < w.heap.size)
    (h : ∀ A c w', Two w' base xb (.slice A (L1.length + news.length) c) v2 (L1 ++ news) L2 → Far base xb w w' → K (a.put o.dst (.slice A (L1.length + news.length) c)) w') :
    if Region.wanted o (yielded ops a.tmps) = true then Oper.wp Try.prog o a w K Q else E := by
  have hw : Region.wanted o (yielded ops a.tmps) = true := by simp [Region.wanted, hgd]
  rw [if_pos hw]
  obtain ⟨i, hi1, hi2, hi3, hi4⟩ := info_parts infoInt2
  obtain ⟨A1, c1, e1, hc1, ho1⟩ := T.o1
  subst e1
  obtain ⟨v', w', hr, h2, h3, h4, h5⟩ := run_append_own_at (P := Try.prog) w base 26 o.type 2 i (.int .i64 0) 1 8 Try.underlying26 hi1 hi2 hi3 hi4 rfl (by omega) _ _ _ ho1 ad news.length c (news.map (Value.int .i64)) (by simp) hc (by intro u hu; simp at hu; obtain ⟨y, -, rfl⟩ := hu; rfl) (by unfold maxLen; omega) (by omega) hb
  obtain ⟨A, c', rfl, hc'⟩ := owns_form h2
  obtain ⟨g1, g2⟩ := T.grownL h2 h3 h5 hxb
  unfold Oper.wp execOp
  simp only [ho, resolve, invoke, builtin, Sem.run_bind, Sem.run_pure, Result.andThen_ok, List.map_toArray, List.map_cons, List.map_nil, hs, hx, hr]
  exact h A c' w' g1 g2
end Go.Proofs.Ytjabldjffpjkeaa
