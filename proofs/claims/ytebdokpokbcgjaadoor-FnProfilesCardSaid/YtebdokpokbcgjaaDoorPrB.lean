/- Texts in one: RgN, RpN, RpS, RpI, PtI. -/
import Derived.Test.YtebdokpokbcgjaaDoorRgP
import Derived.Test.YtebdokpokbcgjaaDoorRpP
import Derived.IntWalk
import Derived.Deep.DeepCutAuto
import Derived.Test.YtebdokpokbcgjaaDoorPtS
namespace Go.Proofs.YtebdokpokbcgjaaDoor
section
set_option linter.unusedSimpArgs false
set_option linter.unusedVariables false
open Go.RowKit

/-- the numbers that a call has read: a row of its own, from base on -/
def NumsO (base : Nat) (e : Ending) (w' : World) (M : Option (List Int)) : Prop :=
  match M with
  | some M => ∃ A' c', e = .returned (.tuple #[.slice A' M.length c', .bool true]) ∧ OwnI w' base (.slice A' M.length c') M
  | none => e = .returned (.tuple #[.slice none 0 0, .bool false])
theorem NumsO.none_ {base : Nat} {e : Ending} {w' : World} (h : NumsO base e w' none) : e = .returned (.tuple #[.slice none 0 0, .bool false]) := h
theorem NumsO.some_ {base : Nat} {e : Ending} {w' : World} {M : List Int} (h : NumsO base e w' (some M)) : ∃ A' c', e = .returned (.tuple #[.slice A' M.length c', .bool true]) ∧ OwnI w' base (.slice A' M.length c') M := h

set_option maxRecDepth 20000 in
set_option maxHeartbeats 4000000 in
theorem l01NumbersO_any (A : Option Addr) (c : Nat) (L : List (List UInt8)) (w : World) (hs : StrsAt w A c L) (hl : L.length ≤ 2000000) (hw : ∀ z ∈ L, z.length ≤ 2000000) :
    Calls Tryd.prog 62 #[.slice A L.length c] w fun e w' => NumsO w.heap.size e w' (rdL rdS L) ∧ Below w.heap.size w w' := by
  have HS := Lib.hid hs; have HW := Lib.hid hw; clear hs hw
  go_enter Tryd.func62, Tryd.ntmps62
  go_wp2
  go_loopw [4, 5] (fun o i wr => Below w.heap.size w wr ∧ ∃ (k : Nat) (M : List Int), k ≤ L.length ∧ M.length = k ∧ i = .int .i64 k ∧ OwnI wr w.heap.size o M ∧ rdL rdS (L.take k) = some M) (fun _ i _ => L.length - (intOf i).toNat)
  case atStart => exact ⟨by go_grown, 0, [], by omega, rfl, rfl, OwnI.zero (Nat.le_refl _), rfl⟩
  case round =>
    obtain ⟨Br, k, M, hk, hM, rfl, hown, hrd⟩ := hrel
    obtain ⟨A', c', rfl, hc', ho⟩ := id hown
    rw [hM] at ho ⊢
    have sr := Br.size
    have HBr := Lib.hid Br; have HO := Lib.hid ho; have HOI := Lib.hid hown; have HR := Lib.hid hrd; have HM := Lib.hid hM; clear Br hown hrd hM ho
    have HXr := Lib.hid (HS.out.below HBr.out (Nat.le_refl _))
    by_cases hlt : k < L.length
    · obtain ⟨g, off, z, rfl, hg, hz, cz⟩ := HXr.out.at_ hlt
      have hzl := HW.out z (List.mem_of_getElem? hz)
      have HZ := Lib.hid hz; clear hz
      have kk0 : (0 : Int) ≤ k := by omega
      have kk1 : (k : Int) < L.length := by omega
      have CS := Lib.hid (fun W => l01Signed_any z W hzl)
      cases hr : rdS z with
      | none =>
        have HN := Lib.hid (rdL_none hr L (List.mem_of_getElem? HZ.out))
        rw [hr] at CS
        clear hr
        go_wp2_with (go_at_call 95; refine (CS.out _).mono ?_; rintro e_ w1 ⟨⟨n, rfl, hn⟩, hb1⟩)
        go_ret2
        exact ⟨by rw [HN.out]; rfl, HBr.out.trans (hb1.mono (by omega))⟩
      | some v =>
        have HN := Lib.hid (rdL_next HR.out HZ.out hr)
        rw [hr] at CS
        clear hr
        go_wp2_with (first
          | (go_at_call 95; refine (CS.out _).mono ?_; rintro e_ w1 ⟨⟨n, rfl, hn⟩, hb1⟩; obtain rfl := hn v rfl; have hz1 := hb1.size; have HO1 := Lib.hid (owns_below HO.out hb1 (Nat.le_refl _)); clear hn)
          | (at_builtin; refine app1 rfl _ _ 22 rfl w.heap.size 2 (.int .i64 0) 8 Tryd.underlying22 infoInt2 rfl (.int .i64 n) rfl _ _ _ rfl _ rfl (owns_below (B := w1.heap.size) HO1.out ?_ (Nat.le_refl _)) ?_ ?_ ?_ ?_ ?_; (focus (first | (go_grown; done) | (refine bdrewN ?_ _; go_grown; done) | exact Below.alloc (bdrewN (Below.refl _ _) _) (Nat.le_refl _) _)); (focus (first | (simp; done) | exact (World.cell?_alloc_new (w := _) _ _ _).trans rfl)); (focus (unfold maxLen; omega)); (focus omega); (focus (first | omega | (simp; omega))); intro v2 w2 hown2 hb2))
        go_roundw
        all_goals first | exact ⟨Below.trans (HBr.out.trans (Below.trans (hb1.mono (show w.heap.size ≤ wr.heap.size by omega)) (show Below w.heap.size w1 _ from (by first | exact Below.refl _ _ | (go_grown; done) | exact bdrewN (Below.refl _ _) _)))) hb2, k + 1, M ++ [n], by omega, by rw [List.length_append, HM.out]; rfl, by go_num, OwnI.next rfl (by rw [HM.out]; exact hown2), HN.out⟩ | (simp [intOf]; omega)
    · obtain rfl : k = L.length := by omega
      have e := HR.out
      rw [List.take_length] at e
      go_wp2
      go_ret2
      refine ⟨?_, HBr.out⟩
      rw [e]
      exact ⟨A', c', by rw [HM.out]; rfl, HOI.out⟩

theorem OwnI.two_ {w : World} {base : Nat} {A : Option Addr} {n c : Nat} {x y : Int} (h : OwnI w base (.slice A n c) [x, y]) : ∃ b, A = some ⟨b, 0, none⟩ ∧ base ≤ b ∧ b < w.heap.size ∧ c ≤ maxLen ∧ 2 ≤ c ∧ w.cell? ⟨b, 0, none⟩ = some (.int .i64 x) ∧ w.cell? ⟨b, 1, none⟩ = some (.int .i64 y) := by
  have hl := h.lt
  obtain ⟨A', c', e, hc, ho⟩ := h
  injection e with e1 e2 e3
  subst e1 e2 e3
  rcases ho.2 with ⟨hnil, h0⟩ | ⟨g, cap, cur, hv, hbase, hb, h1, h2, h3, h4⟩
  · simp at h0
  · injection hv with e1 e2 e3
    subst e1 e3
    have hlt := hl g rfl
    refine ⟨g, rfl, hbase, hlt.2, h2, h1, ?_, ?_⟩
    · have := ho.cellAt 0 (by simp); simpa using this
    · have := ho.cellAt 1 (by simp); simpa using this

/-- append(v1, z) as a step of a region that draws its order; every block but v1's own stays -/
theorem stepTwoF {ops : Array Oper} {o : Oper} {a : Act} {w : World} {K : Act → World → Prop} {Q : Exit → Act → World → Prop} {E : Prop} (hgd : o.guard = none) (s x : Operand)
    (ho : o.op = .call { callee := .builtin .append, args := #[s, x], argTypes := #[22, 22] })
    (base xb : Nat) (v1 v2 : Value) (L1 L2 : List Int) (z : Int) (b : Nat) (hs : a.eval s = v1) (hx : a.eval x = .slice (some ⟨b, 0, none⟩) 1 1) (hc : w.cell? ⟨b, 0, none⟩ = some (.int .i64 z)) (T : Two w base xb v1 v2 L1 L2) (hL : L1.length ≤ 8000000000) (hb : base ≤ w.heap.size) (hxb : xb < w.heap.size)
    (h : ∀ A c w', Two w' base xb (.slice A (L1.length + 1) c) v2 (L1 ++ [z]) L2 → Far base xb w w' → w.grownBy w' v1.ownBlock → K (a.put o.dst (.slice A (L1.length + 1) c)) w') :
    if Region.wanted o (yielded ops a.tmps) = true then Oper.wp Tryd.prog o a w K Q else E := by
  have hw : Region.wanted o (yielded ops a.tmps) = true := by simp [Region.wanted, hgd]
  rw [if_pos hw]
  obtain ⟨i, hi1, hi2, hi3, hi4⟩ := info_parts infoInt2
  obtain ⟨A1, c1, rfl, hc1, ho1⟩ := T.o1
  obtain ⟨v', w', hr, h2, h3, h4, h5⟩ := run_append_own_at (P := Tryd.prog) w base 22 o.type 2 i (.int .i64 0) 1 8 Tryd.underlying22 hi1 hi2 hi3 hi4 rfl (by omega) _ _ _ ho1 ⟨b, 0, none⟩ 1 1 [.int .i64 z] rfl
    (fun j u hj => by
      match j, hj with
      | 0, hj =>
        simp at hj
        subst hj
        simpa [Addr.add] using hc
      | j + 1, hj => simp at hj) (by intro u hu; simp at hu; subst hu; rfl) (by unfold maxLen; omega) (by omega) hb
  obtain ⟨A, c, rfl, hc⟩ := owns_form h2
  obtain ⟨g1, g2⟩ := T.grown h2 h3 h5 hxb
  unfold Oper.wp execOp
  simp only [ho, resolve, invoke, builtin, Sem.run_bind, Sem.run_pure, Result.andThen_ok, List.map_toArray, List.map_cons, List.map_nil, hs, hx, hr]
  exact h A c w' g1 g2 h3
theorem grown_cell {w w1 : World} {row : Option Nat} {b o : Nat} {v : Value} (h : w.grownBy w1 row) (hb : b < w.heap.size) (hr : row ≠ some b) (hc : w.cell? ⟨b, o, none⟩ = some v) : w1.cell? ⟨b, o, none⟩ = some v :=
  (World.cell?_of_block (w := w) (h.block b hb (fun e => hr e.symm))).trans hc
theorem StrsAt.under {w w1 : World} {g off c B : Nat} {L : List (List UInt8)} (h : StrsAt w (some ⟨g, off, none⟩) c L) (hb : Below B w w1) (hr : g < B) : StrsAt w1 (some ⟨g, off, none⟩) c L := by
  obtain ⟨h1, h2, g', off', e, hlt, hc⟩ := h
  simp only [Option.some.injEq, Addr.mk.injEq, and_true] at e
  obtain ⟨rfl, rfl⟩ := e
  exact ⟨h1, h2, g, off, rfl, Nat.lt_of_lt_of_le hlt hb.size, fun j z hz => (bAt hb hr).trans (hc j z hz)⟩
end

section
set_option linter.unusedSimpArgs false
set_option linter.unusedVariables false
open Go.RowKit

theorem listTwoF {ops : Array Oper} {rest : List Oper} {o : Oper} {a : Act} {w : World} {Q : Exit → Act → World → Prop} (hgd : o.guard = none) (s x : Operand)
    (ho : o.op = .call { callee := .builtin .append, args := #[s, x], argTypes := #[22, 22] })
    (base xb : Nat) (v1 v2 : Value) (L1 L2 : List Int) (z : Int) (b : Nat) (hs : a.eval s = v1) (hx : a.eval x = .slice (some ⟨b, 0, none⟩) 1 1) (hc : w.cell? ⟨b, 0, none⟩ = some (.int .i64 z)) (T : Two w base xb v1 v2 L1 L2) (hL : L1.length ≤ 8000000000) (hb : base ≤ w.heap.size) (hxb : xb < w.heap.size)
    (h : ∀ A c w', Two w' base xb (.slice A (L1.length + 1) c) v2 (L1 ++ [z]) L2 → Far base xb w w' → w.grownBy w' v1.ownBlock → wpList Tryd.prog ops Q rest (a.put o.dst (.slice A (L1.length + 1) c)) w') : wpList Tryd.prog ops Q (o :: rest) a w := by
  refine wpList_plain hgd fun K hK => ?_
  obtain ⟨i, hi1, hi2, hi3, hi4⟩ := info_parts infoInt2
  obtain ⟨A1, c1, rfl, hc1, ho1⟩ := T.o1
  obtain ⟨v', w', hr, h2, h3, h4, h5⟩ := run_append_own_at (P := Tryd.prog) w base 22 o.type 2 i (.int .i64 0) 1 8 Tryd.underlying22 hi1 hi2 hi3 hi4 rfl (by omega) _ _ _ ho1 ⟨b, 0, none⟩ 1 1 [.int .i64 z] rfl
    (fun j u hj => by
      match j, hj with
      | 0, hj =>
        simp at hj
        subst hj
        simpa [Addr.add] using hc
      | j + 1, hj => simp at hj) (by intro u hu; simp at hu; subst hu; rfl) (by unfold maxLen; omega) (by omega) hb
  obtain ⟨A, c, rfl, hc⟩ := owns_form h2
  obtain ⟨g1, g2⟩ := T.grown h2 h3 h5 hxb
  unfold Oper.wp execOp
  simp only [ho, resolve, invoke, builtin, Sem.run_bind, Sem.run_pure, Result.andThen_ok, List.map_toArray, List.map_cons, List.map_nil, hs, hx, hr]
  exact hK _ _ (h A c w' g1 g2 h3)
theorem Two.zero2 (w : World) (xb : Nat) (hx : xb < w.heap.size) : Two ((w.alloc (.cells #[] 2)).alloc (.cells #[] 2)) w.heap.size xb (.slice (some ⟨w.heap.size, 0, none⟩) 0 0) (.slice (some ⟨w.heap.size + 1, 0, none⟩) 0 0) [] [] := by
  have h1 := OwnI.zero (w := w) (base := w.heap.size) (Nat.le_refl _)
  have h2 := OwnI.zero (w := w.alloc (.cells #[] 2)) (base := w.heap.size) (by simp)
  have e2 : (w.alloc (.cells #[] 2)).heap.size = w.heap.size + 1 := by simp
  rw [e2] at h2
  refine ⟨h1.below ((Below.refl (w.alloc (.cells #[] 2)).heap.size _).alloc (Nat.le_refl _) (.cells #[] 2)) (Nat.le_refl _), h2, by simp [Value.ownBlock]; omega, by simp [Value.ownBlock]; omega, fun g e => ?_⟩
  simp only [Value.ownBlock, Option.some.injEq] at e
  subst e
  simp [Value.ownBlock]
end

section
set_option linter.unusedSimpArgs false
set_option linter.unusedVariables false
open Go.RowKit

set_option maxRecDepth 100000 in
set_option maxHeartbeats 8000000 in
theorem specReadProfile_any (l : List UInt8) (w : World) (hl : l.length ≤ 1048576) :
    Calls Tryd.prog 38 #[strL l] w fun e w' => (∃ B1 d1 B2 d2, e = .returned (.tuple #[profV B1 (rpT l).length d1 B2 (rpL l).length d2, .bool (rpK l)]) ∧ ResP w' w.heap.size w'.heap.size B1 d1 B2 d2 (rpT l) (rpL l)) ∧ Below w.heap.size w w' := by
  have HNone := Lib.hid (show rdL (wP 58) (spl 44 l) = none → rpT l = [] ∧ rpL l = [] ∧ rpK l = false from fun q => rp_no (rp_none q))
  have HBad := Lib.hid (show ∀ ps, rdL (wP 58) (spl 44 l) = some ps → ¬ profB (ps.map Prod.fst) (ps.map Prod.snd) = true → rpT l = [] ∧ rpL l = [] ∧ rpK l = false from fun ps q q' => rp_no (rp_bad q q'))
  have HOk := Lib.hid (show ∀ ps, rdL (wP 58) (spl 44 l) = some ps → profB (ps.map Prod.fst) (ps.map Prod.snd) = true → rpT l = ps.map Prod.fst ∧ rpL l = ps.map Prod.snd ∧ rpK l = true from fun ps q q' => rp_yes (rp_ok q q'))
  have hL : (spl 44 l).length ≤ 1048577 := by have := splB_size 44 l []; unfold spl; omega
  have HW := Lib.hid (show ∀ z ∈ spl 44 l, z.length ≤ 1048576 from fun z hz => by have := spl_word hz; omega)
  have SP := Lib.hid (fun W => l01Split_any l 44 W (by omega))
  obtain ⟨L, hLe⟩ : ∃ L, L = spl 44 l := ⟨_, rfl⟩
  rw [← hLe] at SP hL HW HNone HBad HOk
  clear hLe
  go_enter Tryd.func38, Tryd.ntmps38
  go_wp2_with (go_at_call 61; refine (SP.out _).mono ?_; rintro e_ w1 ⟨⟨g, c, rfl, hs, hg⟩, hb1⟩; (try simp only [World.size_alloc, World.size_drew, size_set] at hg); have hz0 := hb1.size; (try simp only [World.size_alloc, World.size_drew, size_set] at hz0); obtain ⟨B1, hz1, q1, s1, t1, x1, y1, z1⟩ := bkeep (w := w) [w.heap.size] (by first | (simp; done) | (simp; omega)) (by first | (go_grown; done) | exact bdrewN (by go_grown) _) hb1; (try simp at hz1); clear hb1)
  have hgl : g < w1.heap.size := hs.lt_
  have HS := Lib.hid hs; clear hs
  have hlt1 : w.heap.size < w1.heap.size := by omega
  have r0 : w1.cell? ⟨w.heap.size, 0, none⟩ = some (.slice none 0 0) := by simp [*, go_sem]
  have r1 : w1.cell? ⟨w.heap.size, 1, none⟩ = some (.slice none 0 0) := by simp [*, go_sem]
  have f0 : ∀ o, w1.frozen? ⟨w.heap.size, o, none⟩ = false := fun o => by simp [*, go_sem]
  have R0 := Lib.hid r0; have R1 := Lib.hid r1; have FR := Lib.hid f0; have HB1 := Lib.hid B1
  clear q1 s1 t1 x1 y1 z1 r0 r1 f0 B1
  go_loopw [5, 6, 7] (fun o1 o2 i wr => ∃ (k : Nat) (M1 M2 : List Int) (ps : List (Int × Int)), k ≤ L.length ∧ i = .int .i64 k ∧ Below w1.heap.size w1 wr ∧ Two wr (w1.heap.size) (w.heap.size) o1 o2 M1 M2 ∧ M1 = ps.map Prod.fst ∧ M2 = ps.map Prod.snd ∧ M1.length = k ∧ M2.length = k ∧ rdL (wP 58) (L.take k) = some ps) (fun _ _ i _ => L.length - (intOf i).toNat)
  case atStart => exact ⟨0, [], [], [], by omega, rfl, by go_grown, Two.zero2 _ _ hlt1, rfl, rfl, rfl, rfl, rfl⟩
  case round =>
    obtain ⟨k, M1, M2, ps, hk, rfl, Br, T, hM1, hM2, hn1, hn2, hrd⟩ := hrel
    obtain ⟨A4, c4, e4, hc4, -⟩ := T.o1; obtain ⟨A5, c5, e5, hc5, -⟩ := T.o2
    subst e4 e5
    have sr : w1.heap.size ≤ wr.heap.size := Br.size
    have NB := Lib.hid (show ∀ b, wr.heap.size ≤ b → (Value.slice A4 M1.length c4).ownBlock ≠ some b from fun b hb e => by have := (T.o1.lt b e).2; omega)
    have TT := Lib.hid T; have HBr := Lib.hid Br; have HM1 := Lib.hid hM1; have HM2 := Lib.hid hM2; have HRD := Lib.hid hrd; have HN1 := Lib.hid hn1; have HN2 := Lib.hid hn2; clear T hM1 hM2 hrd hn1 hn2
    have BW := Lib.hid (HB1.out.trans (HBr.out.mono (show w.heap.size ≤ w1.heap.size by omega)))
    have HXr := Lib.hid (HS.out.below HBr.out (Nat.le_refl _))
    have r0 := (bAt Br (b := w.heap.size) (o := 0) (by omega)).trans R0.out
    have r1 := (bAt Br (b := w.heap.size) (o := 1) (by omega)).trans R1.out
    have f0 : ∀ o, wr.frozen? ⟨w.heap.size, o, none⟩ = false := fun o => (bAtF Br (b := w.heap.size) (o := o) (by omega)).trans (FR.out o)
    have lr : w.heap.size < wr.heap.size := by omega
    clear Br
    by_cases hlt : k < L.length
    · obtain ⟨z, hz⟩ : ∃ z, L[k]? = some z := ⟨_, List.getElem?_eq_getElem hlt⟩
      have cz : wr.cell? ⟨g, k, none⟩ = some (strL z) := by have q := HXr.out.cell_ hz; rwa [Nat.zero_add] at q
      have hg2 := HXr.out.lt_
      have hzl := HW.out z (List.mem_of_getElem? hz)
      have HZ := Lib.hid hz; clear hz
      have kk0 : (0 : Int) ≤ k := by omega
      have kk1 : (k : Int) < L.length := by omega
      have SZ := Lib.hid (fun W => l01Split_any z 58 W (by omega))
      have CN := Lib.hid (fun W A c (h : StrsAt W A c (spl 58 z)) => l01NumbersO_any A c (spl 58 z) W h (by have := splB_size 58 z []; unfold spl; omega) (fun y hy => by have := spl_word hy; omega))
      have HWF := Lib.hid (show wP 58 z = (rdL rdS (spl 58 z)).bind pairI from rfl)
      obtain ⟨Z, hZ⟩ : ∃ Z, Z = spl 58 z := ⟨_, rfl⟩
      rw [← hZ] at SZ CN HWF
      clear hZ
      cases hr : rdL rdS Z with
      | none =>
        obtain ⟨E1, E2, E3⟩ := HNone.out (rdL_none (by rw [HWF.out, hr]; rfl) L (List.mem_of_getElem? HZ.out))
        have F1 := Lib.hid E1; have F2 := Lib.hid E2; have F3 := Lib.hid E3; clear E1 E2 E3
        rw [hr] at CN
        clear hr
        go_wp2_with (first
            | (go_at_call 61; refine (SZ.out _).mono ?_; rintro e_ w2 ⟨⟨g2, c2, rfl, hs2, -⟩, hb2⟩; have HS2 := Lib.hid hs2; have hz2 := hb2.size; have HB2 := Lib.hid hb2; clear hs2 hb2)
            | (go_at_call 62; refine (CN.out _ _ _ HS2.out).mono ?_; rintro e_ w4 ⟨hnr, hb3⟩; obtain rfl := hnr.none_; have HB4 := Lib.hid (HB2.out.trans (hb3.mono hz2)); clear hb3; have hz4 := HB4.out.size; have ly4 : w.heap.size < w4.heap.size := (by omega); have k2 := (bAt HB4.out (b := w.heap.size) (o := 0) (by omega)).trans r0; have k3 := (bAt HB4.out (b := w.heap.size) (o := 1) (by omega)).trans r1; have k5 : ∀ o, w4.frozen? ⟨w.heap.size, o, none⟩ = false := fun o => (bAtF HB4.out (b := w.heap.size) (o := o) (by omega)).trans (f0 o)))
        all_goals refine bodyPost_ret (by simp [results, Tryd.results38, go_sem, *] <;> rfl) rfl ?_
        all_goals exact ⟨⟨none, 0, none, 0, by rw [F1.out, F2.out, F3.out]; rfl, by rw [F1.out, F2.out]; exact ResP.nil _ _ _ _ _⟩, BW.out.trans (Below.trans (HB4.out.mono (by omega)) (by go_grown))⟩
      | some M =>
        by_cases h2 : M.length = 2
        · obtain ⟨s, hs⟩ := pair_len h2
          have HN := Lib.hid (rdL_next HRD.out HZ.out (show wP 58 z = some s by rw [HWF.out, hr]; exact hs))
          obtain rfl := pair_some hs
          rw [hr] at CN
          clear hr hs h2
          go_wp2_with (first
            | (go_at_call 61; refine (SZ.out _).mono ?_; rintro e_ w2 ⟨⟨g2, c2, rfl, hs2, -⟩, hb2⟩; have HS2 := Lib.hid hs2; have hz2 := hb2.size; have HB2 := Lib.hid hb2; clear hs2 hb2)
            | (go_at_call 62; refine (CN.out _ _ _ HS2.out).mono ?_; rintro e_ w4 ⟨hnr, hb3⟩; obtain ⟨A3, c3, rfl, hi3⟩ := hnr.some_; obtain ⟨b3, rfl, hb3l, hb3u, hc3, hc3', d0, d1⟩ := OwnI.two_ hi3; have hc3q : 2 ≤ c3 := hc3'; clear hi3; have HB4 := Lib.hid (HB2.out.trans (hb3.mono hz2)); clear hb3; have hz4 := HB4.out.size; have ly4 : w.heap.size < w4.heap.size := (by omega); have k2 := (bAt HB4.out (b := w.heap.size) (o := 0) (by omega)).trans r0; have k3 := (bAt HB4.out (b := w.heap.size) (o := 1) (by omega)).trans r1; have k5 : ∀ o, w4.frozen? ⟨w.heap.size, o, none⟩ = false := fun o => (bAtF HB4.out (b := w.heap.size) (o := o) (by omega)).trans (f0 o); have T4 := Lib.hid (TT.out.keep (KeepX.of_below HB4.out)); have C4 := Lib.hid (show Below w1.heap.size w1 w4 from HBr.out.trans (HB4.out.mono (by omega))); have hb3r : wr.heap.size ≤ b3 := (by omega); have NB3 := Lib.hid (NB.out b3 hb3r))
            | (at_builtin; (refine listTwoF rfl _ _ rfl (w1.heap.size) (w.heap.size) _ _ _ _ s.2 _ rfl rfl ?_ (TT5.out.symm.keep (by repeat' (first | with_reducible exact KeepX.refl _ _ _ _ | with_reducible refine KeepX.setB ?_ ?_ _ | with_reducible refine KeepX.alloc ?_ ?_ _ | with_reducible refine KeepX.drew ?_ | omega | (simp; done) | (simp; omega)))) ?_ ?_ ?_ ?_; (focus (simp [*, go_sem]; done)); (focus (have q_ := HN2.out; omega)); (focus first | omega | (simp; done) | (simp; omega)); (focus first | omega | (simp; done) | (simp; omega)); intro A15 c15 w7 T7 F7 G7; clear G7; obtain ⟨q7, s7, x7, y7⟩ := fkeep [w.heap.size] (by first | (simp; done) | (simp; omega)) F7; have TT7 := Lib.hid T7; have z7 := F7.size; (try simp only [World.size_alloc, World.size_drew, size_set] at z7); have ly7 : w.heap.size < w7.heap.size := (by omega); have C7 := Lib.hid (show Below w1.heap.size w1 w7 from F7.below (by have hb_ := C5.out; first | with_reducible exact hb_ | (go_grown; done) | exact bdrewN (by go_grown) _) (by omega) (by first | omega | (simp; done) | (simp; omega))); clear T7 F7))
            | (at_builtin; (refine listTwoF rfl _ _ rfl (w1.heap.size) (w.heap.size) _ _ _ _ s.1 _ rfl rfl ?_ (T4.out.keep (by repeat' (first | with_reducible exact KeepX.refl _ _ _ _ | with_reducible refine KeepX.setB ?_ ?_ _ | with_reducible refine KeepX.alloc ?_ ?_ _ | with_reducible refine KeepX.drew ?_ | omega | (simp; done) | (simp; omega)))) ?_ ?_ ?_ ?_; (focus (simp [*, go_sem]; done)); (focus (have q_ := HN1.out; omega)); (focus first | omega | (simp; done) | (simp; omega)); (focus first | omega | (simp; done) | (simp; omega)); intro A14 c14 w5 T5 F5 G5; obtain ⟨q5, s5, x5, y5⟩ := fkeep [w.heap.size] (by first | (simp; done) | (simp; omega)) F5; have d15 := grown_cell (b := b3) (o := 1) (v := .int .i64 s.2) G5 (by first | omega | (simp; done) | (simp; omega)) NB3.out (by simp [*, go_sem]); have TT5 := Lib.hid T5; have z5 := F5.size; (try simp only [World.size_alloc, World.size_drew, size_set] at z5); have ly5 : w.heap.size < w5.heap.size := (by omega); have lb5 : b3 < w5.heap.size := (by omega); have C5 := Lib.hid (show Below w1.heap.size w1 w5 from F5.below (by have hb_ := C4.out; first | with_reducible exact hb_ | (go_grown; done) | exact bdrewN (by go_grown) _) (by omega) (by first | omega | (simp; done) | (simp; omega))); clear T5 F5 G5)))
          go_roundw
          all_goals first | exact ⟨k + 1, M1 ++ [s.1], M2 ++ [s.2], ps ++ [s], by omega, by go_num, (by have hb_ := C7.out; first | with_reducible exact hb_ | (go_grown; done)), TT7.out.symm, by rw [HM1.out, List.map_append]; rfl, by rw [HM2.out, List.map_append]; rfl, by rw [List.length_append, HN1.out]; rfl, by rw [List.length_append, HN2.out]; rfl, HN.out⟩ | (simp [intOf]; omega)
        · obtain ⟨E1, E2, E3⟩ := HNone.out (rdL_none (by rw [HWF.out, hr]; exact pair_none h2) L (List.mem_of_getElem? HZ.out))
          have F1 := Lib.hid E1; have F2 := Lib.hid E2; have F3 := Lib.hid E3; clear E1 E2 E3
          have h5 : ((M.length : Int) == 2) = false := beq_eq_false_iff_ne.2 (by omega)
          rw [hr] at CN
          clear hr
          go_wp2_with (first
            | (go_at_call 61; refine (SZ.out _).mono ?_; rintro e_ w2 ⟨⟨g2, c2, rfl, hs2, -⟩, hb2⟩; have HS2 := Lib.hid hs2; have hz2 := hb2.size; have HB2 := Lib.hid hb2; clear hs2 hb2)
            | (go_at_call 62; refine (CN.out _ _ _ HS2.out).mono ?_; rintro e_ w4 ⟨hnr, hb3⟩; obtain ⟨A3, c3, rfl, hi3⟩ := hnr.some_; have HB4 := Lib.hid (HB2.out.trans (hb3.mono hz2)); clear hb3; have hz4 := HB4.out.size; have ly4 : w.heap.size < w4.heap.size := (by omega); have k2 := (bAt HB4.out (b := w.heap.size) (o := 0) (by omega)).trans r0; have k3 := (bAt HB4.out (b := w.heap.size) (o := 1) (by omega)).trans r1; have k5 : ∀ o, w4.frozen? ⟨w.heap.size, o, none⟩ = false := fun o => (bAtF HB4.out (b := w.heap.size) (o := o) (by omega)).trans (f0 o)))
          all_goals refine bodyPost_ret (by simp [results, Tryd.results38, go_sem, *] <;> rfl) rfl ?_
          all_goals exact ⟨⟨none, 0, none, 0, by rw [F1.out, F2.out, F3.out]; rfl, by rw [F1.out, F2.out]; exact ResP.nil _ _ _ _ _⟩, BW.out.trans (Below.trans (HB4.out.mono (by omega)) (by go_grown))⟩
    · obtain rfl : k = L.length := by omega
      have e := HRD.out
      rw [List.take_length] at e
      have TR := Lib.hid TT.out.res
      by_cases hf : profB M1 M2 = true
      · obtain ⟨E1, E2, E3⟩ := HOk.out ps e (by rw [← HM1.out, ← HM2.out]; exact hf)
        have F1 := Lib.hid (E1.trans HM1.out.symm); have F2 := Lib.hid (E2.trans HM2.out.symm); have F3 := Lib.hid E3; clear E1 E2 E3
        go_wp2_with (go_at_call 44; refine (specIsProfile_any _ _ _ _ _ _ _ (TR.out.1.at.below (B := wr.heap.size) (by first | exact Below.refl _ _ | (go_grown; done) | exact bdrewN (Below.refl _ _) _) (Nat.le_refl _)) (TR.out.2.1.at.below (B := wr.heap.size) (by first | exact Below.refl _ _ | (go_grown; done) | exact bdrewN (Below.refl _ _) _) (Nat.le_refl _))).mono ?_; rintro e w8 ⟨rfl, hb8⟩; obtain ⟨B8, hz8, q8, s8, t8, x8, y8, z8⟩ := bkeep (w := wr) [w.heap.size, wr.heap.size] (by first | (simp; done) | (simp; omega)) (by first | (go_grown; done) | exact bdrewN (by go_grown) _) hb8; (try simp at hz8); clear hb8)
        refine bodyPost_ret (by simp [results, Tryd.results38, go_sem, *] <;> rfl) rfl ?_
        have TR8 := TR.out.below B8 (Nat.le_refl _)
        refine ⟨⟨A4, c4, A5, c5, by rw [F1.out, F2.out, F3.out], ?_⟩, BW.out.trans ((show Below w.heap.size wr w8 from B8.mono (by omega)).trans (by go_grown))⟩
        rw [F1.out, F2.out]
        refine ResP.mono (lo := w1.heap.size) (hi := wr.heap.size) ⟨TR8.1.kept ?_, TR8.2.1.kept ?_, TR8.2.2⟩ (by omega) (by simp only [size_set]; omega)
        all_goals exact ((Keep.refl _ _ _).setB (by omega) _).setB (by omega) _
      · obtain ⟨E1, E2, E3⟩ := HBad.out ps e (by rw [← HM1.out, ← HM2.out]; exact hf)
        have F1 := Lib.hid E1; have F2 := Lib.hid E2; have F3 := Lib.hid E3; clear E1 E2 E3
        have hf' : profB M1 M2 = false := by simpa using hf
        clear hf
        go_wp2_with (go_at_call 44; refine (specIsProfile_any _ _ _ _ _ _ _ (TR.out.1.at.below (B := wr.heap.size) (by first | exact Below.refl _ _ | (go_grown; done) | exact bdrewN (Below.refl _ _) _) (Nat.le_refl _)) (TR.out.2.1.at.below (B := wr.heap.size) (by first | exact Below.refl _ _ | (go_grown; done) | exact bdrewN (Below.refl _ _) _) (Nat.le_refl _))).mono ?_; rintro e w8 ⟨rfl, hb8⟩; obtain ⟨B8, hz8, q8, s8, t8, x8, y8, z8⟩ := bkeep (w := wr) [w.heap.size, wr.heap.size] (by first | (simp; done) | (simp; omega)) (by first | (go_grown; done) | exact bdrewN (by go_grown) _) hb8; (try simp at hz8); clear hb8)
        refine bodyPost_ret (by simp [results, Tryd.results38, go_sem, *] <;> rfl) rfl ?_
        exact ⟨⟨none, 0, none, 0, by rw [F1.out, F2.out, F3.out]; rfl, by rw [F1.out, F2.out]; exact ResP.nil _ _ _ _ _⟩, BW.out.trans ((show Below w.heap.size wr w8 from B8.mono (by omega)).trans (by go_grown))⟩
end

section
set_option linter.unusedSimpArgs false
set_option linter.unusedVariables false
open Go.RowKit

set_option maxRecDepth 100000 in
set_option maxHeartbeats 8000000 in
theorem implReadProfile_any (l : List UInt8) (w : World) (hl : l.length ≤ 1048576) (hr : RdW w) :
    Calls Tryd.prog 36 #[strL l] w fun e w' => (∃ B1 d1 B2 d2, e = .returned (.tuple #[profV B1 (rpT l).length d1 B2 (rpL l).length d2, .bool (rpK l)]) ∧ ResP w' w.heap.size w'.heap.size B1 d1 B2 d2 (rpT l) (rpL l)) ∧ Below w.heap.size w w' := by
  have HNone := Lib.hid (show rdL (wQ 58) (spl 44 l) = none → rpT l = [] ∧ rpL l = [] ∧ rpK l = false from fun q => rp_no ((rp_eq l).symm.trans <| rp_none q))
  have HBad := Lib.hid (show ∀ ps, rdL (wQ 58) (spl 44 l) = some ps → ¬ profB (ps.map Prod.fst) (ps.map Prod.snd) = true → rpT l = [] ∧ rpL l = [] ∧ rpK l = false from fun ps q q' => rp_no ((rp_eq l).symm.trans <| rp_bad q q'))
  have HOk := Lib.hid (show ∀ ps, rdL (wQ 58) (spl 44 l) = some ps → profB (ps.map Prod.fst) (ps.map Prod.snd) = true → rpT l = ps.map Prod.fst ∧ rpL l = ps.map Prod.snd ∧ rpK l = true from fun ps q q' => rp_yes ((rp_eq l).symm.trans <| rp_ok q q'))
  have hL : (spl 44 l).length ≤ 1048577 := by have := splB_size 44 l []; unfold spl; omega
  have HW := Lib.hid (show ∀ z ∈ spl 44 l, z.length ≤ 1048576 from fun z hz => by have := spl_word hz; omega)
  have HR := Lib.hid hr; clear hr
  have SP := Lib.hid (fun W (h : Below w.heap.size w W) => splitG_any l 44 W (by omega) (HR.out.below h (Nat.le_refl _)))
  obtain ⟨L, hLe⟩ : ∃ L, L = spl 44 l := ⟨_, rfl⟩
  rw [← hLe] at SP hL HW HNone HBad HOk
  clear hLe
  go_enter Tryd.func36, Tryd.ntmps36
  go_wp2_with (go_at_call 63; refine (SP.out _ (by first | exact Below.refl _ _ | (go_grown; done) | exact bdrewN (Below.refl _ _) _)).mono ?_; rintro e_ w1 ⟨⟨g, c, rfl, hs, hg⟩, hb1⟩; (try simp only [World.size_alloc, World.size_drew, size_set] at hg); have hz0 := hb1.size; (try simp only [World.size_alloc, World.size_drew, size_set] at hz0); obtain ⟨B1, hz1, q1, s1, t1, x1, y1, z1⟩ := bkeep (w := w) [w.heap.size, w.heap.size + 1] (by first | (simp; done) | (simp; omega)) (by first | (go_grown; done) | exact bdrewN (by go_grown) _) hb1; (try simp at hz1); clear hb1)
  have HS := Lib.hid hs; clear hs
  have r0 : w1.cell? ⟨w.heap.size, 0, none⟩ = some (.slice none 0 0) := by simp [*, go_sem]
  have r1 : w1.cell? ⟨w.heap.size, 1, none⟩ = some (.slice none 0 0) := by simp [*, go_sem]
  have c0 : w1.cell? ⟨w.heap.size + 1, 0, none⟩ = some (.slice none 0 0) := by simp [*, go_sem]
  have c1 : w1.cell? ⟨w.heap.size + 1, 1, none⟩ = some (.slice none 0 0) := by simp [*, go_sem]
  have f0 : ∀ o, w1.frozen? ⟨w.heap.size, o, none⟩ = false := fun o => by simp [*, go_sem]
  have f1 : ∀ o, w1.frozen? ⟨w.heap.size + 1, o, none⟩ = false := fun o => by simp [*, go_sem]
  clear q1 s1 t1 x1 y1 z1
  have HB1 := Lib.hid B1; clear B1
  have R0 := Lib.hid r0; have R1 := Lib.hid r1; have C0 := Lib.hid c0; have C1 := Lib.hid c1; have FR := Lib.hid f0; have FB := Lib.hid f1; clear r0 r1 c0 c1 f0 f1
  go_loopw [17] (fun i wr => ∃ (k : Nat) (v1 v2 : Value) (M1 M2 : List Int) (ps : List (Int × Int)), k ≤ L.length ∧ i = .int .i64 k ∧ ChgB (w.heap.size + 1) (w.heap.size + 2) w1 wr ∧ wr.cell? ⟨w.heap.size + 1, 0, none⟩ = some v1 ∧ wr.cell? ⟨w.heap.size + 1, 1, none⟩ = some v2 ∧ (∀ o, wr.frozen? ⟨w.heap.size + 1, o, none⟩ = false) ∧ Two wr w1.heap.size (w.heap.size + 1) v1 v2 M1 M2 ∧ M1 = ps.map Prod.fst ∧ M2 = ps.map Prod.snd ∧ M1.length = k ∧ M2.length = k ∧ rdL (wQ 58) (L.take k) = some ps) (fun i _ => L.length - (intOf i).toNat)
  case atStart => exact ⟨0, _, _, [], [], [], by omega, rfl, ChgB.refl_ _ _ _, C0.out, C1.out, FB.out, Two.none_ _ _ _, rfl, rfl, rfl, rfl, rfl⟩
  case round =>
    obtain ⟨k, v1, v2, M1, M2, ps, hk, rfl, Cr, T0, T1, fx, T, hM1, hM2, hn1, hn2, hrd⟩ := hrel
    obtain ⟨A4, c4, e4, hc4, -⟩ := T.o1; obtain ⟨A5, c5, e5, hc5, -⟩ := T.o2
    subst e4 e5
    have sr : w1.heap.size ≤ wr.heap.size := Cr.size
    have TT := Lib.hid T; have HC := Lib.hid Cr; have HM1 := Lib.hid hM1; have HM2 := Lib.hid hM2; have HRD := Lib.hid hrd; have HN1 := Lib.hid hn1; have HN2 := Lib.hid hn2; clear T hM1 hM2 hrd hn1 hn2
    have BW := Lib.hid (HB1.out.trans (Cr.below (B := w.heap.size) (by omega) (by omega)))
    have HRr := Lib.hid (HR.out.below BW.out (Nat.le_refl _))
    have HXr := Lib.hid (HS.out.chgB Cr (by omega))
    have r0 : wr.cell? ⟨w.heap.size, 0, none⟩ = some (.slice none 0 0) := (World.cell?_of_block (w := w1) (Cr.block w.heap.size (by omega) (.inl (by omega)))).trans R0.out
    have r1 : wr.cell? ⟨w.heap.size, 1, none⟩ = some (.slice none 0 0) := (World.cell?_of_block (w := w1) (Cr.block w.heap.size (by omega) (.inl (by omega)))).trans R1.out
    have f0 : ∀ o, wr.frozen? ⟨w.heap.size, o, none⟩ = false := fun o => (World.frozen?_of_block (w := w1) (Cr.block w.heap.size (by omega) (.inl (by omega)))).trans (FR.out o)
    clear Cr
    by_cases hlt : k < L.length
    · obtain ⟨z, hz⟩ : ∃ z, L[k]? = some z := ⟨_, List.getElem?_eq_getElem hlt⟩
      have cz : wr.cell? ⟨g, k, none⟩ = some (strL z) := by have q := HXr.out.cell_ hz; rwa [Nat.zero_add] at q
      have hg2 := HXr.out.lt_
      have hzl := HW.out z (List.mem_of_getElem? hz)
      have HZ := Lib.hid hz; clear hz
      have kk0 : (0 : Int) ≤ k := by omega
      have kk1 : (k : Int) < L.length := by omega
      have CC := Lib.hid (cut_any z 58 wr (by omega) HRr.out)
      have HQ := Lib.hid (fun x y => wQ_of (b := 58) (z := z) (x := x) (y := y))
      have HQN := Lib.hid (wQ_no (b := 58) (z := z))
      obtain ⟨lp, lq⟩ := cut_len z 58
      obtain ⟨p, hp⟩ : ∃ p, p = (Lib.cut z [58]).1 := ⟨_, rfl⟩
      obtain ⟨q, hq⟩ : ∃ q, q = (Lib.cut z [58]).2.1 := ⟨_, rfl⟩
      obtain ⟨tb, htb⟩ : ∃ tb, tb = (Lib.cut z [58]).2.2 := ⟨_, rfl⟩
      rw [← hp, ← hq, ← htb] at CC
      rw [← hp] at lp; rw [← hq] at lq
      rw [← hp, ← hq] at HQN
      simp only [← hp, ← hq] at HQ
      clear hp hq htb
      have RP := Lib.hid (fun W (h : Below wr.heap.size wr W) => readNumber_any p W (by omega) (HRr.out.below h (Nat.le_refl _)))
      have RQ := Lib.hid (fun W (h : Below wr.heap.size wr W) => readNumber_any q W (by omega) (HRr.out.below h (Nat.le_refl _)))
      cases h3 : rdZ p with
      | none =>
        obtain ⟨E1, E2, E3⟩ := HNone.out (rdL_none (HQN.out (.inl h3)) L (List.mem_of_getElem? HZ.out))
        have F1 := Lib.hid E1; have F2 := Lib.hid E2; have F3 := Lib.hid E3; clear E1 E2 E3
        rw [h3] at RP
        clear h3
        go_wp2_with (first
          | (go_at_call 64; refine CC.out.mono ?_; rintro e_ w2 ⟨rfl, hb2⟩; have HB2 := Lib.hid hb2; have hz2 := hb2.size; clear hb2)
          | (go_at_call 65; refine (RQ.out _ HB3.out).mono ?_; rintro e_ w4 ⟨⟨n4, rfl, hn4⟩, hb4⟩; have HB4 := Lib.hid (HB3.out.trans (hb4.mono hz3)); have hz4 := HB4.out.size; clear hb4; have ly4 : w.heap.size < w4.heap.size := (by omega); have lz4 : w.heap.size + 1 < w4.heap.size := (by omega); have k0 := (bAt HB4.out (b := w.heap.size + 1) (o := 0) (by omega)).trans T0; have k1 := (bAt HB4.out (b := w.heap.size + 1) (o := 1) (by omega)).trans T1; have k2 := (bAt HB4.out (b := w.heap.size) (o := 0) (by omega)).trans r0; have k3 := (bAt HB4.out (b := w.heap.size) (o := 1) (by omega)).trans r1; have k4 : ∀ o, w4.frozen? ⟨w.heap.size + 1, o, none⟩ = false := fun o => (bAtF HB4.out (b := w.heap.size + 1) (o := o) (by omega)).trans (fx o); have k5 : ∀ o, w4.frozen? ⟨w.heap.size, o, none⟩ = false := fun o => (bAtF HB4.out (b := w.heap.size) (o := o) (by omega)).trans (f0 o))
          | (go_at_call 65; refine (RP.out _ HB2.out).mono ?_; rintro e_ w3 ⟨⟨n3, rfl, hn3⟩, hb3⟩; have HB3 := Lib.hid (HB2.out.trans (hb3.mono hz2)); have hz3 := HB3.out.size; clear hb3))
        all_goals refine bodyPost_ret (by simp [results, Tryd.results36, go_sem, *] <;> rfl) rfl ?_
        all_goals exact ⟨⟨none, 0, none, 0, by rw [F1.out, F2.out, F3.out]; rfl, by rw [F1.out, F2.out]; exact ResP.nil _ _ _ _ _⟩, BW.out.trans (Below.trans (HB4.out.mono (by omega)) (by go_grown))⟩
      | some a =>
        cases h4 : rdZ q with
        | none =>
          obtain ⟨E1, E2, E3⟩ := HNone.out (rdL_none (HQN.out (.inr h4)) L (List.mem_of_getElem? HZ.out))
          have F1 := Lib.hid E1; have F2 := Lib.hid E2; have F3 := Lib.hid E3; clear E1 E2 E3
          rw [h3] at RP
          rw [h4] at RQ
          clear h3 h4
          go_wp2_with (first
          | (go_at_call 64; refine CC.out.mono ?_; rintro e_ w2 ⟨rfl, hb2⟩; have HB2 := Lib.hid hb2; have hz2 := hb2.size; clear hb2)
          | (go_at_call 65; refine (RQ.out _ HB3.out).mono ?_; rintro e_ w4 ⟨⟨n4, rfl, hn4⟩, hb4⟩; have HB4 := Lib.hid (HB3.out.trans (hb4.mono hz3)); have hz4 := HB4.out.size; clear hb4; have ly4 : w.heap.size < w4.heap.size := (by omega); have lz4 : w.heap.size + 1 < w4.heap.size := (by omega); have k0 := (bAt HB4.out (b := w.heap.size + 1) (o := 0) (by omega)).trans T0; have k1 := (bAt HB4.out (b := w.heap.size + 1) (o := 1) (by omega)).trans T1; have k2 := (bAt HB4.out (b := w.heap.size) (o := 0) (by omega)).trans r0; have k3 := (bAt HB4.out (b := w.heap.size) (o := 1) (by omega)).trans r1; have k4 : ∀ o, w4.frozen? ⟨w.heap.size + 1, o, none⟩ = false := fun o => (bAtF HB4.out (b := w.heap.size + 1) (o := o) (by omega)).trans (fx o); have k5 : ∀ o, w4.frozen? ⟨w.heap.size, o, none⟩ = false := fun o => (bAtF HB4.out (b := w.heap.size) (o := o) (by omega)).trans (f0 o))
          | (go_at_call 65; refine (RP.out _ HB2.out).mono ?_; rintro e_ w3 ⟨⟨n3, rfl, hn3⟩, hb3⟩; have HB3 := Lib.hid (HB2.out.trans (hb3.mono hz2)); have hz3 := HB3.out.size; clear hb3))
          all_goals refine bodyPost_ret (by simp [results, Tryd.results36, go_sem, *] <;> rfl) rfl ?_
          all_goals exact ⟨⟨none, 0, none, 0, by rw [F1.out, F2.out, F3.out]; rfl, by rw [F1.out, F2.out]; exact ResP.nil _ _ _ _ _⟩, BW.out.trans (Below.trans (HB4.out.mono (by omega)) (by go_grown))⟩
        | some b =>
          have HN := Lib.hid (rdL_next HRD.out HZ.out (HQ.out a b h3 h4))
          rw [h3] at RP
          rw [h4] at RQ
          clear h3 h4
          go_wp2_with (first
          | (go_at_call 64; refine CC.out.mono ?_; rintro e_ w2 ⟨rfl, hb2⟩; have HB2 := Lib.hid hb2; have hz2 := hb2.size; clear hb2)
          | (go_at_call 65; refine (RQ.out _ HB3.out).mono ?_; rintro e_ w4 ⟨⟨n4, rfl, hn4⟩, hb4⟩; have HB4 := Lib.hid (HB3.out.trans (hb4.mono hz3)); have hz4 := HB4.out.size; clear hb4; have ly4 : w.heap.size < w4.heap.size := (by omega); have lz4 : w.heap.size + 1 < w4.heap.size := (by omega); have k0 := (bAt HB4.out (b := w.heap.size + 1) (o := 0) (by omega)).trans T0; have k1 := (bAt HB4.out (b := w.heap.size + 1) (o := 1) (by omega)).trans T1; have k2 := (bAt HB4.out (b := w.heap.size) (o := 0) (by omega)).trans r0; have k3 := (bAt HB4.out (b := w.heap.size) (o := 1) (by omega)).trans r1; have k4 : ∀ o, w4.frozen? ⟨w.heap.size + 1, o, none⟩ = false := fun o => (bAtF HB4.out (b := w.heap.size + 1) (o := o) (by omega)).trans (fx o); have k5 : ∀ o, w4.frozen? ⟨w.heap.size, o, none⟩ = false := fun o => (bAtF HB4.out (b := w.heap.size) (o := o) (by omega)).trans (f0 o); obtain rfl := hn4 b rfl; clear hn4; have T4 := Lib.hid (TT.out.keep (KeepX.of_below HB4.out)); have C4 := Lib.hid (HC.out.trans (ChgB.of_below (lo := w.heap.size + 1) (hi := w.heap.size + 2) HB4.out)))
          | (go_at_call 65; refine (RP.out _ HB2.out).mono ?_; rintro e_ w3 ⟨⟨n3, rfl, hn3⟩, hb3⟩; have HB3 := Lib.hid (HB2.out.trans (hb3.mono hz2)); have hz3 := HB3.out.size; clear hb3; obtain rfl := hn3 a rfl; clear hn3)
          | (at_builtin; (refine listTwo rfl _ _ rfl (w1.heap.size) (w.heap.size + 1) _ _ _ _ n4 _ rfl rfl ?_ (TT5.out.symm.keep (by repeat' (first | with_reducible exact KeepX.refl _ _ _ _ | with_reducible refine KeepX.setB ?_ ?_ _ | with_reducible refine KeepX.alloc ?_ ?_ _ | with_reducible refine KeepX.drew ?_ | omega | (simp; done) | (simp; omega)))) ?_ ?_ ?_ ?_; (focus (simp [*, go_sem]; done)); (focus (have q1_ := HN1.out; have q2_ := HN2.out; (try rw [List.length_append]); omega)); (focus first | omega | (simp; done) | (simp; omega)); (focus first | omega | (simp; done) | (simp; omega)); intro A15 c15 w6 T6 F6; obtain ⟨q6, s6, x6, y6⟩ := fkeep [w.heap.size, w.heap.size + 1] (by first | (simp; done) | (simp; omega)) F6; have TT6 := Lib.hid T6; have z6 := F6.size; (try simp only [World.size_alloc, World.size_drew, size_set] at z6); have ly6 : w.heap.size < w6.heap.size := (by omega); have lz6 : w.heap.size + 1 < w6.heap.size := (by omega); have C6 := Lib.hid (show ChgB (w.heap.size + 1) (w.heap.size + 2) w1 w6 from ChgB.far_ (by repeat' (first | with_reducible exact C5.out | with_reducible refine ChgB.setI_ ?_ ?_ ?_ _ | with_reducible refine ChgB.alloc_ ?_ _ | with_reducible refine ChgB.drew_ ?_ | omega | (simp; done) | (simp; omega))) F6 (Nat.le_refl _)); clear T6 F6))
          | (at_builtin; (refine listTwo rfl _ _ rfl (w1.heap.size) (w.heap.size + 1) _ _ _ _ n3 _ rfl rfl ?_ (T4.out.keep (by repeat' (first | with_reducible exact KeepX.refl _ _ _ _ | with_reducible refine KeepX.setB ?_ ?_ _ | with_reducible refine KeepX.alloc ?_ ?_ _ | with_reducible refine KeepX.drew ?_ | omega | (simp; done) | (simp; omega)))) ?_ ?_ ?_ ?_; (focus (simp [*, go_sem]; done)); (focus (have q1_ := HN1.out; have q2_ := HN2.out; (try rw [List.length_append]); omega)); (focus first | omega | (simp; done) | (simp; omega)); (focus first | omega | (simp; done) | (simp; omega)); intro A14 c14 w5 T5 F5; obtain ⟨q5, s5, x5, y5⟩ := fkeep [w.heap.size, w.heap.size + 1] (by first | (simp; done) | (simp; omega)) F5; have TT5 := Lib.hid T5; have z5 := F5.size; (try simp only [World.size_alloc, World.size_drew, size_set] at z5); have ly5 : w.heap.size < w5.heap.size := (by omega); have lz5 : w.heap.size + 1 < w5.heap.size := (by omega); have C5 := Lib.hid (show ChgB (w.heap.size + 1) (w.heap.size + 2) w1 w5 from ChgB.far_ (by repeat' (first | with_reducible exact C4.out | with_reducible refine ChgB.setI_ ?_ ?_ ?_ _ | with_reducible refine ChgB.alloc_ ?_ _ | with_reducible refine ChgB.drew_ ?_ | omega | (simp; done) | (simp; omega))) F5 (Nat.le_refl _)); clear T5 F5)))
          go_roundw
          all_goals first | exact ⟨k + 1, _, _, M1 ++ [n3], M2 ++ [n4], ps ++ [(n3, n4)], by omega, by go_num, (by repeat' (first | with_reducible exact C6.out | with_reducible refine ChgB.setI_ ?_ ?_ ?_ _ | with_reducible refine ChgB.alloc_ ?_ _ | with_reducible refine ChgB.drew_ ?_ | omega | (simp; done) | (simp; omega))), by simp [*, go_sem] <;> rfl, by simp [*, go_sem] <;> rfl, fun o => by simp [*, go_sem], (TT6.out.keep (by repeat' (first | with_reducible exact KeepX.refl _ _ _ _ | with_reducible refine KeepX.setB ?_ ?_ _ | with_reducible refine KeepX.alloc ?_ ?_ _ | with_reducible refine KeepX.drew ?_ | omega | (simp; done) | (simp; omega)))).symm, by rw [HM1.out, List.map_append]; rfl, by rw [HM2.out, List.map_append]; rfl, by rw [List.length_append, HN1.out]; rfl, by rw [List.length_append, HN2.out]; rfl, HN.out⟩ | (simp [intOf]; omega)
    · obtain rfl : k = L.length := by omega
      have e := HRD.out
      rw [List.take_length] at e
      have TR := Lib.hid TT.out.res
      have AS := Lib.hid (fun W (h : ProfAt W A4 c4 A5 c5 M1 M2) => implIsProfile_any A4 A5 c4 c5 M1 M2 W h.1 h.2)
      by_cases hf : profB M1 M2 = true
      · obtain ⟨E1, E2, E3⟩ := HOk.out ps e (by rw [← HM1.out, ← HM2.out]; exact hf)
        have F1 := Lib.hid (E1.trans HM1.out.symm); have F2 := Lib.hid (E2.trans HM2.out.symm); have F3 := Lib.hid E3; clear E1 E2 E3
        go_wp2_with (go_at_call 43; refine (implIsProfile_any _ _ _ _ _ _ _ (TR.out.1.at.below (B := wr.heap.size) (by first | exact Below.refl _ _ | (go_grown; done) | exact bdrewN (Below.refl _ _) _) (Nat.le_refl _)) (TR.out.2.1.at.below (B := wr.heap.size) (by first | exact Below.refl _ _ | (go_grown; done) | exact bdrewN (Below.refl _ _) _) (Nat.le_refl _))).mono ?_; rintro e w8 ⟨rfl, hb8⟩; obtain ⟨B8, hz8, q8, s8, t8, x8, y8, z8⟩ := bkeep (w := wr) [w.heap.size, w.heap.size + 1] (by first | (simp; done) | (simp; omega)) (by first | (go_grown; done) | exact bdrewN (by go_grown) _) hb8; (try simp at hz8); clear hb8)
        refine bodyPost_ret (by simp [results, Tryd.results36, go_sem, *] <;> rfl) rfl ?_
        have TR8 := TR.out.below B8 (Nat.le_refl _)
        refine ⟨⟨A4, c4, A5, c5, by rw [F1.out, F2.out, F3.out], ?_⟩, BW.out.trans ((show Below w.heap.size wr w8 from B8.mono (by omega)).trans (by go_grown))⟩
        rw [F1.out, F2.out]
        refine ResP.mono (lo := w1.heap.size) (hi := wr.heap.size) ⟨TR8.1.kept ?_, TR8.2.1.kept ?_, TR8.2.2⟩ (by omega) (by simp only [size_set]; omega)
        all_goals exact ((Keep.refl _ _ _).setB (by omega) _).setB (by omega) _
      · obtain ⟨E1, E2, E3⟩ := HBad.out ps e (by rw [← HM1.out, ← HM2.out]; exact hf)
        have F1 := Lib.hid E1; have F2 := Lib.hid E2; have F3 := Lib.hid E3; clear E1 E2 E3
        have hf' : profB M1 M2 = false := by simpa using hf
        clear hf
        go_wp2_with (go_at_call 43; refine (implIsProfile_any _ _ _ _ _ _ _ (TR.out.1.at.below (B := wr.heap.size) (by first | exact Below.refl _ _ | (go_grown; done) | exact bdrewN (Below.refl _ _) _) (Nat.le_refl _)) (TR.out.2.1.at.below (B := wr.heap.size) (by first | exact Below.refl _ _ | (go_grown; done) | exact bdrewN (Below.refl _ _) _) (Nat.le_refl _))).mono ?_; rintro e w8 ⟨rfl, hb8⟩; obtain ⟨B8, hz8, q8, s8, t8, x8, y8, z8⟩ := bkeep (w := wr) [w.heap.size, w.heap.size + 1] (by first | (simp; done) | (simp; omega)) (by first | (go_grown; done) | exact bdrewN (by go_grown) _) hb8; (try simp at hz8); clear hb8)
        refine bodyPost_ret (by simp [results, Tryd.results36, go_sem, *] <;> rfl) rfl ?_
        exact ⟨⟨none, 0, none, 0, by rw [F1.out, F2.out, F3.out]; rfl, by rw [F1.out, F2.out]; exact ResP.nil _ _ _ _ _⟩, BW.out.trans ((show Below w.heap.size wr w8 from B8.mono (by omega)).trans (by go_grown))⟩
end

section
set_option linter.unusedSimpArgs false
set_option linter.unusedVariables false
open Go.RowKit

set_option maxRecDepth 20000 in
set_option maxHeartbeats 4000000 in
theorem implProfileText_any (A1 A2 : Option Addr) (c1 c2 : Nat) (ts ls : List Int) (w : World) (ht : TabW w) (h : ProfAt w A1 c1 A2 c2 ts ls) :
    Calls Tryd.prog 35 #[profV A1 ts.length c1 A2 ls.length c2] w fun e w' => e = .returned (strL (pxS ts ls)) ∧ Below w.heap.size w w' := by
  have hn1 := Nat.le_trans h.1.1 h.1.2.1
  have hn2 := Nat.le_trans h.2.1 h.2.2.1
  have H := Lib.hid h; clear h
  by_cases hp : profB ts ls = true
  · obtain ⟨l1, l2, l3', gt, -, gv⟩ := pro_is hp
    have GI := Lib.hid (pro_is hp)
    have l3 : ls.length ≤ ts.length := by omega
    have l4 : ts.length ≤ ls.length := by omega
    clear l3'
    have GT := Lib.hid gt; have GV := Lib.hid gv; clear gt gv
    have HS := Lib.hid (show pxS ts ls = Lib.join (pxL ts ls ts.length) [44] by unfold pxS; rw [if_pos hp])
    go_enter Tryd.func35, Tryd.ntmps35
    go_wp2_with (go_at_call 43; refine (implIsProfile_any _ _ _ _ _ _ _ (H.out.1.below (B := w.heap.size) (by first | exact Below.refl _ _ | (go_grown; done) | exact bdrewN (by go_grown) _) (Nat.le_refl _)) (H.out.2.below (B := w.heap.size) (by first | exact Below.refl _ _ | (go_grown; done) | exact bdrewN (by go_grown) _) (Nat.le_refl _))).mono ?_; rintro e w1 ⟨rfl, hb1⟩; obtain ⟨B1, hz1, q1, s1, t1, x1, y1, z1⟩ := bkeep (w := w) [w.heap.size] (by first | (simp; done) | (simp; omega)) (by first | (go_grown; done) | exact bdrewN (by go_grown) _) hb1; (try simp at hz1); clear hb1)
    have e0 : w1.cell? ⟨w.heap.size, 0, none⟩ = some (.slice A1 ts.length c1) := (q1 w.heap.size 0 (by simp)).trans (by simp [*, go_sem])
    have e1 : w1.cell? ⟨w.heap.size, 1, none⟩ = some (.slice A2 ls.length c2) := (q1 w.heap.size 1 (by simp)).trans (by simp [*, go_sem])
    have hz : w.heap.size < w1.heap.size := by omega
    clear q1 s1 t1 x1 y1 z1
    go_loopw [3, 12] (fun o i wr => Below (w.heap.size + 1) w1 wr ∧ ∃ k : Nat, k ≤ ts.length ∧ i = .int .i64 k ∧ OwnT wr (w.heap.size + 1) o (pxL ts ls k)) (fun _ i _ => ts.length - (intOf i).toNat)
    case atStart => exact ⟨Below.refl _ _, 0, by omega, rfl, OwnT.none_ _ _⟩
    case round =>
      obtain ⟨Br, k, hk, rfl, hown⟩ := hrel
      obtain ⟨A', c', rfl, hc', -⟩ := id hown
      rw [pxL_len] at hown ⊢
      have sr := Br.size
      have g0 := (bAt Br (b := w.heap.size) (o := 0) (by omega)).trans e0
      have g1 := (bAt Br (b := w.heap.size) (o := 1) (by omega)).trans e1
      have HP := Lib.hid (H.out.below (B1.trans (Br.mono (by omega))) (Nat.le_refl _))
      have HBr := Lib.hid Br
      have HO := Lib.hid hown; clear hown
      have TB := Lib.hid (ht.below (B1.trans (Br.mono (by omega))) (Nat.le_refl _))
      by_cases hlt : k < ts.length
      · obtain ⟨b1, o1, x, rfl, hb1, hx, cx⟩ := HP.out.1.at_ hlt
        obtain ⟨b2, o2, y, rfl, hb2, hy, cy⟩ := HP.out.2.at_ (show k < ls.length by omega)
        have bx := GT.out _ _ hx; have bY := GV.out _ _ hy
        have HX := Lib.hid hx; have HY := Lib.hid hy; clear hx hy
        have kk0 : (0 : Int) ≤ k := by omega
        have kk1 : (k : Int) < ts.length := by omega
        have kk2 : (k : Int) < ls.length := by omega
        have sl : w.heap.size < wr.heap.size := by omega
        have lX := itoa_len (n := x) (by omega) (by omega); have lY := itoa_len (n := y) (by omega) (by omega)
        have HW := Lib.hid (pxL_next HX.out HY.out)
        obtain ⟨TX, hTX⟩ : ∃ O, O = Lib.itoa x := ⟨_, rfl⟩
        obtain ⟨TY, hTY⟩ : ∃ O, O = Lib.itoa y := ⟨_, rfl⟩
        have HE := Lib.hid (show pxW x y = TX ++ [58] ++ TY by unfold pxW; rw [hTX, hTY])
        have CX := Lib.hid (show ∀ W, Below wr.heap.size wr W → Calls Tryd.prog 52 #[.int .i64 x] W fun e_ w' => e_ = .returned (strL TX) ∧ Below W.heap.size W w' from fun W hW => by rw [hTX]; exact decimal_any x W (TB.out.below hW (Nat.le_refl _)) (by omega) (by omega))
        have CY := Lib.hid (show ∀ W, Below wr.heap.size wr W → Calls Tryd.prog 52 #[.int .i64 y] W fun e_ w' => e_ = .returned (strL TY) ∧ Below W.heap.size W w' from fun W hW => by rw [hTY]; exact decimal_any y W (TB.out.below hW (Nat.le_refl _)) (by omega) (by omega))
        rw [← hTX] at lX; rw [← hTY] at lY; clear hTX hTY
        have z1_ : (9223372036854775807 < TX.length + 1) = False := eq_false (by omega)
        have z2_ : (9223372036854775807 < TX.length + 1 + TY.length) = False := eq_false (by omega)
        have CL := Lib.hid (pxL_len ts ls k)
        have CT := Lib.hid (strp_cat2 TX TY)
        go_wp2_with fail
        go_region_law (first
            | (refine stepT rfl _ _ rfl (w.heap.size + 1) _ (pxL ts ls k) (TX ++ [58] ++ TY) _ rfl rfl ?_ (HO.out.below (B := wr.heap.size) (by have hb_ := BB.out; first | with_reducible exact hb_ | exact bdrewN hb_ _ | (go_grown; done)) (Nat.le_refl _)) (by rw [CL.out]; omega) (by first | omega | (simp; omega)) ?_; (focus (rw [← CT.out]; simp [*, go_sem]; done)); intro A6 c6 w6 T6 F6; have OT := Lib.hid T6; have BF := Lib.hid F6; clear T6 F6)
            | (go_simp; go_at_call 52; refine (CX.out _ (by first | exact Below.refl _ _ | (go_grown; done) | exact bdrewN (Below.refl _ _) _)).mono ?_; rintro e_ w21 ⟨rfl, hb21⟩; obtain ⟨hc21, hf21⟩ := bcellW hb21; have hz21 := hb21.size; (try simp only [World.size_alloc, World.size_drew, size_set] at hz21); (try simp only [World.size_alloc, World.size_drew, size_set] at hc21); (try simp only [World.size_alloc, World.size_drew, size_set] at hf21); have ly21_0 : w.heap.size < w21.heap.size := (by omega); have ly21_1 : b1 < w21.heap.size := (by omega); have ly21_2 : b2 < w21.heap.size := (by omega); have BB := Lib.hid ((show Below wr.heap.size wr _ from (by first | exact Below.refl _ _ | (go_grown; done) | exact bdrewN (Below.refl _ _) _)).trans (hb21.mono (by first | omega | (simp; done) | (simp; omega)))); clear hb21; (try go_wp2_with fail))
            | (go_simp; go_at_call 52; refine (CY.out _ (by have hb_ := BB.out; first | with_reducible exact hb_ | exact bdrewN hb_ _ | (go_grown; done))).mono ?_; rintro e_ w22 ⟨rfl, hb22⟩; obtain ⟨hc22, hf22⟩ := bcellW hb22; have hz22 := hb22.size; (try simp only [World.size_alloc, World.size_drew, size_set] at hz22); (try simp only [World.size_alloc, World.size_drew, size_set] at hc22); (try simp only [World.size_alloc, World.size_drew, size_set] at hf22); have ly22_0 : w.heap.size < w22.heap.size := (by omega); have ly22_1 : b1 < w22.heap.size := (by omega); have ly22_2 : b2 < w22.heap.size := (by omega); have BB := Lib.hid ((BB.out.trans (show Below wr.heap.size w21 _ from Below.mono (B := w21.heap.size) (by first | exact Below.refl _ _ | (go_grown; done) | exact bdrewN (Below.refl _ _) _) (by omega))).trans (hb22.mono (by first | omega | (simp; done) | (simp; omega)))); clear hb22; (try go_wp2_with fail)))
        all_goals go_wp2
        all_goals go_roundw
        all_goals first | exact ⟨Below.trans (Below.trans (HBr.out.trans (BB.out.mono (show w.heap.size + 1 ≤ wr.heap.size by omega))) (by first | exact Below.refl _ _ | (go_grown; done) | exact bdrewN (Below.refl _ _) _)) BF.out, k + 1, by omega, by go_num, by have q := OT.out; rw [← HE.out, ← HW.out] at q; exact q⟩ | (simp [intOf]; omega)
      · obtain rfl : k = ts.length := by omega
        go_wp2_with (go_at_call 53; refine (join_any _ _ _ _ _ _ [44] HO.out (by rw [pxL_len]; omega) (by rw [pxL_len]; omega) (by have := pxJ_len GI.out (Nat.le_refl _); omega)).mono ?_; rintro e_ w5 ⟨rfl, hb5⟩)
        go_ret
        exact ⟨congrArg (fun l => Ending.returned (strL l)) HS.out.symm, (B1.trans (HBr.out.mono (by omega))).trans (hb5.mono (by omega))⟩
  · have HS := Lib.hid (show pxS ts ls = [] by unfold pxS; rw [if_neg hp])
    go_enter Tryd.func35, Tryd.ntmps35
    go_wp2_with (go_at_call 43; refine (implIsProfile_any _ _ _ _ _ _ _ (H.out.1.below (B := w.heap.size) (by first | exact Below.refl _ _ | (go_grown; done) | exact bdrewN (by go_grown) _) (Nat.le_refl _)) (H.out.2.below (B := w.heap.size) (by first | exact Below.refl _ _ | (go_grown; done) | exact bdrewN (by go_grown) _) (Nat.le_refl _))).mono ?_; rintro e w1 ⟨rfl, hb1⟩; obtain ⟨B1, hz1, q1, s1, t1, x1, y1, z1⟩ := bkeep (w := w) [w.heap.size] (by first | (simp; done) | (simp; omega)) (by first | (go_grown; done) | exact bdrewN (by go_grown) _) hb1; (try simp at hz1); clear hb1)
    go_ret
    exact ⟨congrArg (fun l => Ending.returned (strL l)) HS.out.symm, B1⟩
end
end Go.Proofs.YtebdokpokbcgjaaDoor
