/- The numbers of a text, by the reference, in a row of its own; an append to one of two rows that tells which blocks stay. -/
import Derived.Test.YtebdokpokbcgjaaDoorRgP
namespace Go.Proofs.YtebdokpokbcgjaaDoor
set_option linter.unusedSimpArgs false
set_option linter.unusedVariables false
open Go.RowKit

/-- the numbers that a call has read: a row of its own, from base on -/
def NumsO (base : Nat) (e : Ending) (w' : World) (M : Option (List Int)) : Prop :=
  match M with
  | some M => ∃ A' c', e = .returned (.tuple #[.slice A' M.length c', .bool true]) ∧ OwnI w' base (.slice A' M.length c') M
  | none => e = .returned (.tuple #[.slice none 0 0, .bool false])
theorem NumsO.none_ {base : Nat} {e : Ending} {w' : World} (h : NumsO base e w' none) : e = .returned (.tuple #[.slice none 0 0, .bool false]) := h
theorem NumsO.some_ {base : Nat} {e : Ending} {w' : World} {M : List Int} (h : NumsO base e w' (some M)) : ∃ A' c', e = .returned (.tuple #[.slice A' M.length c', .bool true]) ∧ OwnI w' base (.slice A' M.length c') M := h

set_option maxRecDepth 20000 in
set_option maxHeartbeats 4000000 in
theorem l01NumbersO_any (A : Option Addr) (c : Nat) (L : List (List UInt8)) (w : World) (hs : StrsAt w A c L) (hl : L.length ≤ 2000000) (hw : ∀ z ∈ L, z.length ≤ 2000000) :
    Calls Tryd.prog 62 #[.slice A L.length c] w fun e w' => NumsO w.heap.size e w' (rdL rdS L) ∧ Below w.heap.size w w' := by
  have HS := Lib.hid hs; have HW := Lib.hid hw; clear hs hw
  go_enter Tryd.func62, Tryd.ntmps62
  go_wp2
  go_loopw [4, 5] (fun o i wr => Below w.heap.size w wr ∧ ∃ (k : Nat) (M : List Int), k ≤ L.length ∧ M.length = k ∧ i = .int .i64 k ∧ OwnI wr w.heap.size o M ∧ rdL rdS (L.take k) = some M) (fun _ i _ => L.length - (intOf i).toNat)
  case atStart => exact ⟨by go_grown, 0, [], by omega, rfl, rfl, OwnI.zero (Nat.le_refl _), rfl⟩
  case round =>
    obtain ⟨Br, k, M, hk, hM, rfl, hown, hrd⟩ := hrel
    obtain ⟨A', c', rfl, hc', ho⟩ := id hown
    rw [hM] at ho ⊢
    have sr := Br.size
    have HBr := Lib.hid Br; have HO := Lib.hid ho; have HOI := Lib.hid hown; have HR := Lib.hid hrd; have HM := Lib.hid hM; clear Br hown hrd hM ho
    have HXr := Lib.hid (HS.out.below HBr.out (Nat.le_refl _))
    by_cases hlt : k < L.length
    · obtain ⟨g, off, z, rfl, hg, hz, cz⟩ := HXr.out.at_ hlt
      have hzl := HW.out z (List.mem_of_getElem? hz)
      have HZ := Lib.hid hz; clear hz
      have kk0 : (0 : Int) ≤ k := by omega
      have kk1 : (k : Int) < L.length := by omega
      have CS := Lib.hid (fun W => l01Signed_any z W hzl)
      cases hr : rdS z with
      | none =>
        have HN := Lib.hid (rdL_none hr L (List.mem_of_getElem? HZ.out))
        rw [hr] at CS
        clear hr
        go_wp2_with (go_at_call 95; refine (CS.out _).mono ?_; rintro e_ w1 ⟨⟨n, rfl, hn⟩, hb1⟩)
        go_ret2
        exact ⟨by rw [HN.out]; rfl, HBr.out.trans (hb1.mono (by omega))⟩
      | some v =>
        have HN := Lib.hid (rdL_next HR.out HZ.out hr)
        rw [hr] at CS
        clear hr
        go_wp2_with (first
          | (go_at_call 95; refine (CS.out _).mono ?_; rintro e_ w1 ⟨⟨n, rfl, hn⟩, hb1⟩; obtain rfl := hn v rfl; have hz1 := hb1.size; have HO1 := Lib.hid (owns_below HO.out hb1 (Nat.le_refl _)); clear hn)
          | (at_builtin; refine app1 rfl _ _ 22 rfl w.heap.size 2 (.int .i64 0) 8 Tryd.underlying22 infoInt2 rfl (.int .i64 n) rfl _ _ _ rfl _ rfl (owns_below (B := w1.heap.size) HO1.out ?_ (Nat.le_refl _)) ?_ ?_ ?_ ?_ ?_; (focus (first | (go_grown; done) | (refine bdrewN ?_ _; go_grown; done) | exact Below.alloc (bdrewN (Below.refl _ _) _) (Nat.le_refl _) _)); (focus (first | (simp; done) | exact (World.cell?_alloc_new (w := _) _ _ _).trans rfl)); (focus (unfold maxLen; omega)); (focus omega); (focus (first | omega | (simp; omega))); intro v2 w2 hown2 hb2))
        go_roundw
        all_goals first | exact ⟨Below.trans (HBr.out.trans (Below.trans (hb1.mono (show w.heap.size ≤ wr.heap.size by omega)) (show Below w.heap.size w1 _ from (by first | exact Below.refl _ _ | (go_grown; done) | exact bdrewN (Below.refl _ _) _)))) hb2, k + 1, M ++ [n], by omega, by rw [List.length_append, HM.out]; rfl, by go_num, OwnI.next rfl (by rw [HM.out]; exact hown2), HN.out⟩ | (simp [intOf]; omega)
    · obtain rfl : k = L.length := by omega
      have e := HR.out
      rw [List.take_length] at e
      go_wp2
      go_ret2
      refine ⟨?_, HBr.out⟩
      rw [e]
      exact ⟨A', c', by rw [HM.out]; rfl, HOI.out⟩

theorem OwnI.two_ {w : World} {base : Nat} {A : Option Addr} {n c : Nat} {x y : Int} (h : OwnI w base (.slice A n c) [x, y]) : ∃ b, A = some ⟨b, 0, none⟩ ∧ base ≤ b ∧ b < w.heap.size ∧ c ≤ maxLen ∧ 2 ≤ c ∧ w.cell? ⟨b, 0, none⟩ = some (.int .i64 x) ∧ w.cell? ⟨b, 1, none⟩ = some (.int .i64 y) := by
  have hl := h.lt
  obtain ⟨A', c', e, hc, ho⟩ := h
  injection e with e1 e2 e3
  subst e1 e2 e3
  rcases ho.2 with ⟨hnil, h0⟩ | ⟨g, cap, cur, hv, hbase, hb, h1, h2, h3, h4⟩
  · simp at h0
  · injection hv with e1 e2 e3
    subst e1 e3
    have hlt := hl g rfl
    refine ⟨g, rfl, hbase, hlt.2, h2, h1, ?_, ?_⟩
    · have := ho.cellAt 0 (by simp); simpa using this
    · have := ho.cellAt 1 (by simp); simpa using this

/-- append(v1, z) as a step of a region that draws its order; every block but v1's own stays -/
theorem stepTwoF {ops : Array Oper} {o : Oper} {a : Act} {w : World} {K : Act → World → Prop} {Q : Exit → Act → World → Prop} {E : Prop} (hgd : o.guard = none) (s x : Operand)
    (ho : o.op = .call { callee := .builtin .append, args := #[s, x], argTypes := #[22, 22] })
    (base xb : Nat) (v1 v2 : Value) (L1 L2 : List Int) (z : Int) (b : Nat) (hs : a.eval s = v1) (hx : a.eval x = .slice (some ⟨b, 0, none⟩) 1 1) (hc : w.cell? ⟨b, 0, none⟩ = some (.int .i64 z)) (T : Two w base xb v1 v2 L1 L2) (hL : L1.length ≤ 8000000000) (hb : base ≤ w.heap.size) (hxb : xb < w.heap.size)
    (h : ∀ A c w', Two w' base xb (.slice A (L1.length + 1) c) v2 (L1 ++ [z]) L2 → Far base xb w w' → w.grownBy w' v1.ownBlock → K (a.put o.dst (.slice A (L1.length + 1) c)) w') :
    if Region.wanted o (yielded ops a.tmps) = true then Oper.wp Tryd.prog o a w K Q else E := by
  have hw : Region.wanted o (yielded ops a.tmps) = true := by simp [Region.wanted, hgd]
  rw [if_pos hw]
  obtain ⟨i, hi1, hi2, hi3, hi4⟩ := info_parts infoInt2
  obtain ⟨A1, c1, rfl, hc1, ho1⟩ := T.o1
  obtain ⟨v', w', hr, h2, h3, h4, h5⟩ := run_append_own_at (P := Tryd.prog) w base 22 o.type 2 i (.int .i64 0) 1 8 Tryd.underlying22 hi1 hi2 hi3 hi4 rfl (by omega) _ _ _ ho1 ⟨b, 0, none⟩ 1 1 [.int .i64 z] rfl
    (fun j u hj => by
      match j, hj with
      | 0, hj =>
        simp at hj
        subst hj
        simpa [Addr.add] using hc
      | j + 1, hj => simp at hj) (by intro u hu; simp at hu; subst hu; rfl) (by unfold maxLen; omega) (by omega) hb
  obtain ⟨A, c, rfl, hc⟩ := owns_form h2
  obtain ⟨g1, g2⟩ := T.grown h2 h3 h5 hxb
  unfold Oper.wp execOp
  simp only [ho, resolve, invoke, builtin, Sem.run_bind, Sem.run_pure, Result.andThen_ok, List.map_toArray, List.map_cons, List.map_nil, hs, hx, hr]
  exact h A c w' g1 g2 h3
theorem grown_cell {w w1 : World} {row : Option Nat} {b o : Nat} {v : Value} (h : w.grownBy w1 row) (hb : b < w.heap.size) (hr : row ≠ some b) (hc : w.cell? ⟨b, o, none⟩ = some v) : w1.cell? ⟨b, o, none⟩ = some v :=
  (World.cell?_of_block (w := w) (h.block b hb (fun e => hr e.symm))).trans hc
theorem StrsAt.under {w w1 : World} {g off c B : Nat} {L : List (List UInt8)} (h : StrsAt w (some ⟨g, off, none⟩) c L) (hb : Below B w w1) (hr : g < B) : StrsAt w1 (some ⟨g, off, none⟩) c L := by
  obtain ⟨h1, h2, g', off', e, hlt, hc⟩ := h
  simp only [Option.some.injEq, Addr.mk.injEq, and_true] at e
  obtain ⟨rfl, rfl⟩ := e
  exact ⟨h1, h2, g, off, rfl, Nat.lt_of_lt_of_le hlt hb.size, fun j z hz => (bAt hb hr).trans (hc j z hz)⟩
end Go.Proofs.YtebdokpokbcgjaaDoor
