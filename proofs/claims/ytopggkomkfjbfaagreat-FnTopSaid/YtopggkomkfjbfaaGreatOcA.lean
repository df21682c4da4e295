/- Texts in one: DrawLem, Draw04, DrawKnot, MakeDir, DrawDir, DrawRay, DrawCel, DrawR8, DrawFan. -/
import Derived.Test.YtopggkomkfjbfaaGreatSrc
import Derived.Test.YtopggkomkfjbfaaGreatTwo
import Derived.Test.YtopggkomkfjbfaaGreatProf2
import Derived.Deep.DeepCutAuto
import Derived.Deep.RegionHeld3
import Derived.BigRegion
import Derived.Test.YtopggkomkfjbfaaGreatSpd
import Derived.IntWalk
namespace Go.Proofs.YtopggkomkfjbfaaGreat
section
set_option linter.unusedSimpArgs false
set_option linter.unusedVariables false
open Go.RowKit

section
variable {w w1 W : World} {A : Option Addr} {c S base xb lo hi : Nat} {xs : List Int}
theorem SrcAt.keepS (h : SrcAt w S A c xs) (k : Keep 0 (S + 1) w W) : SrcAt W S A c xs :=
  h.of_block k.size (k.block S (Nat.zero_le _) (Nat.lt_succ_self _)) (fun b hb => k.block b (Nat.zero_le _) (by omega))
theorem Far.keep (h : Far base xb w w1) (h1 : S + 1 ≤ base) (h2 : S + 1 ≤ w.heap.size) : Keep 0 (S + 1) w w1 := ⟨h.size, fun b _ hb => h.block b (by omega) (.inl (by omega))⟩
theorem Chg.keepX {hi : Nat} (h : Chg S (S + 1) w w1) (h1 : S < base) : KeepX base hi xb w w1 := ⟨by rw [h.size]; exact Nat.le_refl _, fun b hb _ _ => h.block b (.inr (by omega))⟩
theorem ChgB.far (h : ChgB lo hi w w1) (k : Far base xb w1 W) (h1 : w.heap.size ≤ base) : ChgB lo hi w W :=
  ⟨k.os.trans h.os, k.tape.trans h.tape, k.output.trans h.output, Nat.le_trans h.size k.size, fun b hb hr => (k.block b (Nat.lt_of_lt_of_le hb h.size) (.inl (by omega))).trans (h.block b hb hr)⟩
theorem ChgB.setB {b o : Nat} (h : ChgB lo hi w w1) (hb : w.heap.size ≤ b) (v : Value) : ChgB lo hi w (w1.setCell ⟨b, o, none⟩ v) :=
  ⟨h.os, h.tape, h.output, by rw [size_set]; exact h.size, fun k hk hr => (heap_setCell_other _ _ _ _ (by show k ≠ b; omega)).trans (h.block k hk hr)⟩
theorem ChgB.alloc (h : ChgB lo hi w w1) (o : Obj) : ChgB lo hi w (w1.alloc o) := h.trans (ChgB.of_below ((Below.refl _ _).alloc (Nat.le_refl _) o))
theorem ChgB.drew (h : ChgB lo hi w w1) : ChgB lo hi w w1.drew := ⟨h.os, h.tape, h.output, by simpa using h.size, h.block⟩
theorem ChgB.drewN (h : ChgB lo hi w w1) (n : Nat) : ChgB lo hi w (w1.drewN n) := ⟨h.os, h.tape, h.output, by simpa using h.size, h.block⟩
theorem ChgB.refl (lo hi : Nat) (w : World) : ChgB lo hi w w := ⟨rfl, rfl, rfl, Nat.le_refl _, fun _ _ _ => rfl⟩
theorem Chg.far_ (h : Chg S (S + 1) w w1) {b o : Nat} (hb : b ≠ S) : w1.cell? ⟨b, o, none⟩ = w.cell? ⟨b, o, none⟩ := h.old (by omega) o
theorem Chg.farF (h : Chg S (S + 1) w w1) {b o : Nat} (hb : b ≠ S) : w1.frozen? ⟨b, o, none⟩ = w.frozen? ⟨b, o, none⟩ := World.frozen?_of_block (w := w) (h.block b (by omega))
/-- behind a draw: the named blocks, none of which is the source's -/
theorem ckeepS (bs : List Nat) (hn : ∀ b ∈ bs, b < w.heap.size ∧ b ≠ S) (h : Chg S (S + 1) w w1) :
    (∀ b o, b ∈ bs → w1.cell? ⟨b, o, none⟩ = w.cell? ⟨b, o, none⟩) ∧ (∀ b o, b ∈ bs → w1.frozen? ⟨b, o, none⟩ = w.frozen? ⟨b, o, none⟩) ∧ (∀ b, b ∈ bs → b < w1.heap.size) ∧ (∀ b, b ∈ bs → ¬ b = w1.heap.size) :=
  ⟨fun b o hb => h.far_ (hn b hb).2, fun b o hb => h.farF (hn b hb).2, fun b hb => by rw [h.size]; exact (hn b hb).1, fun b hb => by have := (hn b hb).1; have := h.size; omega⟩
/-- a number of a row of numbers turned -/
theorem ResI.setAt {b off i : Nat} {z : Int} (h : ResI w lo hi (some ⟨b, off, none⟩) c xs) (hi' : i < xs.length) : ResI (w.setCell ⟨b, off + i, none⟩ (.int .i64 z)) lo hi (some ⟨b, off, none⟩) c (xs.set i z) := by
  refine ⟨by rw [List.length_set]; exact h.1, h.2.1, ?_⟩
  rcases h.2.2 with e | ⟨b', off', e, h1, h2, h3, hf, hc⟩
  · rw [e] at hi'; simp at hi'
  · simp only [Option.some.injEq, Addr.mk.injEq, and_true] at e
    obtain ⟨rfl, rfl⟩ := e
    refine .inr ⟨b, off, rfl, h1, h2, by rw [size_set]; exact h3, fun o => by rw [World.frozen?_setCell]; exact hf o, fun j x hx => ?_⟩
    by_cases e : j = i
    · subst e
      rw [List.getElem?_set_self hi'] at hx
      injection hx with hx
      subst hx
      exact World.cell?_setCell_same' _ _ _ (by rw [hc j _ (List.getElem?_eq_getElem hi')]; rfl)
    · rw [List.getElem?_set_ne (fun g => e g.symm)] at hx
      rw [World.cell?_setCell_other _ _ _ _ (by simp only [ne_eq, Addr.mk.injEq, true_and, and_true]; omega)]
      exact hc j x hx
theorem ResP.kept {A1 A2 : Option Addr} {c1 c2 : Nat} {ds ss : List Int} (h : ResP w lo hi A1 c1 A2 c2 ds ss) (k : Keep lo hi w w1) : ResP w1 lo hi A1 c1 A2 c2 ds ss := ⟨h.1.kept k, h.2.1.kept k, h.2.2⟩
theorem ResI.aside {A2 : Option Addr} {b o : Nat} {v : Value} (h : ResI w lo hi A2 c xs) (hn : xs ≠ [] → ∀ b' o', A2 = some ⟨b', o', none⟩ → b ≠ b') : ResI (w.setCell ⟨b, o, none⟩ v) lo hi A2 c xs := by
  by_cases e : xs = []
  · subst e; exact ResI.nil _ _ _ _ _ h.2.1
  · obtain ⟨b', o', rfl⟩ := h.form e
    obtain ⟨p1, p2, p3⟩ := h.pin e
    have := hn e b' o' rfl
    exact (p3.kept ((Keep.refl _ _ _).setB (by omega) v)).mono p1 (by omega)
theorem ResP.setFst {A2 : Option Addr} {b off c1 c2 : Nat} {ds ss : List Int} {z : Int} (h : ResP w lo hi (some ⟨b, off, none⟩) c1 A2 c2 ds ss) (h0 : 0 < ds.length) : ResP (w.setCell ⟨b, off, none⟩ (.int .i64 z)) lo hi (some ⟨b, off, none⟩) c1 A2 c2 (ds.set 0 z) ss := by
  have hd : ds ≠ [] := by intro e; rw [e] at h0; simp at h0
  refine ⟨by simpa using h.1.setAt (i := 0) (z := z) h0, h.2.1.aside (fun hs b' o' e => h.2.2 hd hs b off b' o' rfl e), fun _ => h.2.2 hd⟩
theorem ResP.symm_ {A1 A2 : Option Addr} {c1 c2 : Nat} {ds ss : List Int} (h : ResP w lo hi A1 c1 A2 c2 ds ss) : ResP w lo hi A2 c2 A1 c1 ss ds := ⟨h.2.1, h.1, fun a b x o x' o' e e' g => h.2.2 b a x' o' x o e' e g.symm⟩
theorem ResP.setSnd {A1 : Option Addr} {b off c1 c2 : Nat} {ds ss : List Int} {z : Int} (h : ResP w lo hi A1 c1 (some ⟨b, off, none⟩) c2 ds ss) (h0 : 0 < ss.length) : ResP (w.setCell ⟨b, off, none⟩ (.int .i64 z)) lo hi A1 c1 (some ⟨b, off, none⟩) c2 ds (ss.set 0 z) := (h.symm_.setFst h0).symm_
end
theorem Two.zero2 (w : World) (xb : Nat) (h : xb < w.heap.size) : Two ((w.alloc (.cells #[] 2)).alloc (.cells #[] 2)) w.heap.size xb (.slice (some ⟨w.heap.size, 0, none⟩) 0 0) (.slice (some ⟨w.heap.size + 1, 0, none⟩) 0 0) [] [] := by
  have h1 := OwnI.zero (w := w) (base := w.heap.size) (Nat.le_refl _)
  have h2 := OwnI.zero (w := w.alloc (.cells #[] 2)) (base := w.heap.size) (by simp)
  have e2 : (w.alloc (.cells #[] 2)).heap.size = w.heap.size + 1 := by simp
  rw [e2] at h2
  refine ⟨h1.below ((Below.refl (w.alloc (.cells #[] 2)).heap.size _).alloc (Nat.le_refl _) (.cells #[] 2)) (Nat.le_refl _), h2, by simp [Value.ownBlock]; omega, by simp [Value.ownBlock]; omega, fun g e => ?_⟩
  simp only [Value.ownBlock, Option.some.injEq] at e
  subst e
  simp [Value.ownBlock]
theorem ResP.keepB {w w1 W : World} {lo hi lo' hi' c1 c2 : Nat} {A1 A2 : Option Addr} {ds ss : List Int} (h : ResP w lo hi A1 c1 A2 c2 ds ss) (k : Keep lo hi w W) (hc : ChgB lo' hi' W w1) (h1 : hi' ≤ lo) (h2 : hi ≤ W.heap.size) : ResP w1 lo hi A1 c1 A2 c2 ds ss :=
  (h.kept k).kept ⟨hc.size, fun b hb1 hb2 => hc.block b (by omega) (.inr (by omega))⟩
end

section
set_option linter.unusedSimpArgs false
set_option linter.unusedVariables false
open Go.RowKit

set_option maxRecDepth 100000 in
set_option maxHeartbeats 16000000 in
theorem l04Draw_any (S : Nat) (A : Option Addr) (c : Nat) (xs : List Int) (w : World) (h : SrcAt w S A c xs) :
    Calls Tryz.prog 58 #[.pointer (some ⟨S, 0, none⟩)] w fun e w' => (∃ A1 c1 A2 c2 ts ls, e = .returned (profV A1 (List.length ts) c1 A2 (List.length ls) c2) ∧ ResP w' w.heap.size w'.heap.size A1 c1 A2 c2 ts ls ∧ 2 ≤ ts.length ∧ ts.length ≤ 13 ∧ 2 ≤ ls.length ∧ ls.length ≤ 13) ∧ SrcAt w' S A c xs ∧ ChgB S (S + 1) w w' := by
  have ltS := h.lt
  have SS := Lib.hid h; have CC := Lib.hid (ChgB.refl S (S + 1) w); clear h
  have nS0 : w.heap.size ≠ S := by omega
  have nS1 : S ≠ w.heap.size := by omega
  go_enter Tryz.func58, Tryz.ntmps58
  go_upto_region 2 with fail
  have TT := Lib.hid (Two.zero2 (w.alloc (.cells #[.slice none 0 0, .slice none 0 0] 26)) w.heap.size (by simp))
  simp only [World.size_alloc] at TT
  go_upto_region 3 with (go_at_call 35; refine (l01Next_any S A c xs _ _ (SS.out.keepS (by repeat' (first | with_reducible exact Keep.refl _ _ _ | with_reducible refine Keep.setB ?_ ?_ _ | with_reducible refine Keep.alloc ?_ ?_ _ | with_reducible refine Keep.drew ?_ | omega | (simp; done) | (simp; omega))))).mono ?_; rintro e w2 ⟨⟨n2, rfl, n20, n21⟩, s2', ch2⟩; have CC := Lib.hid ((show ChgB S (S + 1) w _ from (by repeat' (first | with_reducible exact CC.out | with_reducible exact ChgB.refl _ _ _ | with_reducible refine ChgB.setB ?_ ?_ _ | with_reducible refine ChgB.alloc ?_ _ | with_reducible refine ChgB.drew ?_ | with_reducible refine ChgB.drewN ?_ _ | omega | (simp; done) | (simp; omega)))).trans ch2.toB); have TT := Lib.hid ((TT.out.keep (by repeat' (first | with_reducible exact KeepX.refl _ _ _ _ | with_reducible refine KeepX.setB ?_ ?_ _ | with_reducible refine KeepX.alloc ?_ ?_ _ | with_reducible refine KeepX.drew ?_ | omega | (simp; done) | (simp; omega)))).keep (ch2.keepX (by omega))); have SS := Lib.hid s2'; obtain ⟨q2, s2, x2, y2⟩ := ckeepS [w.heap.size] (by first | (simp; done) | (simp; omega)) ch2; have z2 := Nat.le_of_eq ch2.size.symm; (try simp only [World.size_alloc, World.size_drew, size_set] at z2); clear s2' ch2; have lR2 : w.heap.size < w2.heap.size := x2 _ (by simp))
  go_upto_region 4 with (go_at_call 35; refine (l01Next_any S A c xs _ _ (SS.out.keepS (by repeat' (first | with_reducible exact Keep.refl _ _ _ | with_reducible refine Keep.setB ?_ ?_ _ | with_reducible refine Keep.alloc ?_ ?_ _ | with_reducible refine Keep.drew ?_ | omega | (simp; done) | (simp; omega))))).mono ?_; rintro e w3 ⟨⟨n3, rfl, n30, n31⟩, s3', ch3⟩; have CC := Lib.hid ((show ChgB S (S + 1) w _ from (by repeat' (first | with_reducible exact CC.out | with_reducible exact ChgB.refl _ _ _ | with_reducible refine ChgB.setB ?_ ?_ _ | with_reducible refine ChgB.alloc ?_ _ | with_reducible refine ChgB.drew ?_ | with_reducible refine ChgB.drewN ?_ _ | omega | (simp; done) | (simp; omega)))).trans ch3.toB); have TT := Lib.hid ((TT.out.keep (by repeat' (first | with_reducible exact KeepX.refl _ _ _ _ | with_reducible refine KeepX.setB ?_ ?_ _ | with_reducible refine KeepX.alloc ?_ ?_ _ | with_reducible refine KeepX.drew ?_ | omega | (simp; done) | (simp; omega)))).keep (ch3.keepX (by omega))); have SS := Lib.hid s3'; obtain ⟨q3, s3, x3, y3⟩ := ckeepS [w.heap.size] (by first | (simp; done) | (simp; omega)) ch3; have z3 := Nat.le_of_eq ch3.size.symm; (try simp only [World.size_alloc, World.size_drew, size_set] at z3); clear s3' ch3; have lR3 : w.heap.size < w3.heap.size := x3 _ (by simp); obtain ⟨m3, rfl⟩ := Int.eq_ofNat_of_zero_le n30)
  refine genS (S := fun w' => w.heap.size < w'.heap.size ∧ w'.cell? ⟨w.heap.size, 0, none⟩ = some (.slice none 0 0) ∧ w'.cell? ⟨w.heap.size, 1, none⟩ = some (.slice none 0 0) ∧ (∀ o, w'.frozen? ⟨w.heap.size, o, none⟩ = false) ∧ ChgB S (S + 1) w w' ∧ SrcAt w' S A c xs ∧ Two w' (w.heap.size + 1) (w.heap.size) (.slice (some ⟨w.heap.size + 1, 0, none⟩) 0 0) (.slice (some ⟨w.heap.size + 1 + 1, 0, none⟩) 0 0) ([]) ([])) ⟨by first | omega | (simp; done) | (simp; omega), by simp [*, go_sem], by simp [*, go_sem], fun o => by simp [*, go_sem], (by repeat' (first | with_reducible exact CC.out | with_reducible exact ChgB.refl _ _ _ | with_reducible refine ChgB.setB ?_ ?_ _ | with_reducible refine ChgB.alloc ?_ _ | with_reducible refine ChgB.drew ?_ | with_reducible refine ChgB.drewN ?_ _ | omega | (simp; done) | (simp; omega))), SS.out.keepS (by repeat' (first | with_reducible exact Keep.refl _ _ _ | with_reducible refine Keep.setB ?_ ?_ _ | with_reducible refine Keep.alloc ?_ ?_ _ | with_reducible refine Keep.drew ?_ | omega | (simp; done) | (simp; omega))), TT.out.keep (by repeat' (first | with_reducible exact KeepX.refl _ _ _ _ | with_reducible refine KeepX.setB ?_ ?_ _ | with_reducible refine KeepX.alloc ?_ ?_ _ | with_reducible refine KeepX.drew ?_ | omega | (simp; done) | (simp; omega)))⟩ ?_
  clear q2 s2 x2 y2 z2 q3 s3 x3 y3 z3
  rintro w5 ⟨ltR, r0, r1, fR, cc, ss, tt⟩
  have CC := Lib.hid cc; have SS := Lib.hid ss; have TT := Lib.hid tt; clear cc ss tt
  go_loopw [3, 4, 5, 6, 7] (fun s3 s4 s5 s6 s7 wr => ∃ (ta tl : Int) (m : Nat) (L1 L2 : List Int), s5 = .int .i64 ta ∧ s6 = .int .i64 tl ∧ s7 = .int .i64 m ∧ L2.length = L1.length ∧ 2 ≤ L1.length + m ∧ L1.length + m ≤ 5 ∧ w.heap.size < wr.heap.size ∧ wr.cell? ⟨w.heap.size, 0, none⟩ = some (.slice none 0 0) ∧ wr.cell? ⟨w.heap.size, 1, none⟩ = some (.slice none 0 0) ∧ (∀ o, wr.frozen? ⟨w.heap.size, o, none⟩ = false) ∧ ChgB S (S + 1) w wr ∧ SrcAt wr S A c xs ∧ Two wr (w.heap.size + 1) (w.heap.size) (s3) (s4) (L1) (L2)) (fun _ _ _ _ s7 _ => (intOf s7).toNat)
  case atStart => exact ⟨_, _, 2 + m3, [], [], rfl, rfl, by go_num, rfl, by simp, by simp; omega, ltR, r0, r1, fR, CC.out, SS.out, TT.out⟩
  case round =>
    obtain ⟨ta, tl, m, L1, L2, rfl, rfl, rfl, hL, h1, h2, ltR, r0, r1, fR, cc, ss, tt⟩ := hrel
    obtain ⟨A4, c4, e4, hc4, -⟩ := tt.o1; obtain ⟨A5, c5, e5, hc5, -⟩ := tt.o2
    subst e4 e5
    have CC := Lib.hid cc; have SS := Lib.hid ss; have TT := Lib.hid tt; clear cc ss tt
    have hL1 : L2.length ≤ L1.length := by omega
    have hL2 : L1.length ≤ L2.length := by omega
    clear hL
    rcases m with _ | m
    · have h1' : 2 ≤ L1.length := by omega
      have i1 : (0 : Int) < L1.length := by omega
      have i2 : (0 : Int) < L2.length := by omega
      have i3 : 0 < L1.length := by omega
      have i4 : 0 < L2.length := by omega
      have i5 : L1 ≠ [] := by intro e; rw [e] at i3; simp at i3
      have i6 : L2 ≠ [] := by intro e; rw [e] at i4; simp at i4
      have i7 : L1.length ≤ 5 := by omega
      have i8 : L2.length ≤ 5 := by omega
      go_upto_region 11 with (go_at_call 35; refine (l01Next_any S A c xs _ _ (SS.out.keepS (by repeat' (first | with_reducible exact Keep.refl _ _ _ | with_reducible refine Keep.setB ?_ ?_ _ | with_reducible refine Keep.alloc ?_ ?_ _ | with_reducible refine Keep.drew ?_ | omega | (simp; done) | (simp; omega))))).mono ?_; rintro e w20 ⟨⟨n20, rfl, n200, n201⟩, s20', ch20⟩; have CC := Lib.hid ((show ChgB S (S + 1) w _ from (by repeat' (first | with_reducible exact CC.out | with_reducible exact ChgB.refl _ _ _ | with_reducible refine ChgB.setB ?_ ?_ _ | with_reducible refine ChgB.alloc ?_ _ | with_reducible refine ChgB.drew ?_ | with_reducible refine ChgB.drewN ?_ _ | omega | (simp; done) | (simp; omega)))).trans ch20.toB); have TT := Lib.hid ((TT.out.keep (by repeat' (first | with_reducible exact KeepX.refl _ _ _ _ | with_reducible refine KeepX.setB ?_ ?_ _ | with_reducible refine KeepX.alloc ?_ ?_ _ | with_reducible refine KeepX.drew ?_ | omega | (simp; done) | (simp; omega)))).keep (ch20.keepX (by omega))); have SS := Lib.hid s20'; obtain ⟨q20, s20, x20, y20⟩ := ckeepS [w.heap.size] (by first | (simp; done) | (simp; omega)) ch20; have z20 := Nat.le_of_eq ch20.size.symm; (try simp only [World.size_alloc, World.size_drew, size_set] at z20); clear s20' ch20; have lR20 : w.heap.size < w20.heap.size := x20 _ (by simp))
      refine genS (S := fun w' => w.heap.size < w'.heap.size ∧ w'.cell? ⟨w.heap.size, 0, none⟩ = some (.slice none 0 0) ∧ w'.cell? ⟨w.heap.size, 1, none⟩ = some (.slice none 0 0) ∧ (∀ o, w'.frozen? ⟨w.heap.size, o, none⟩ = false) ∧ ChgB S (S + 1) w w' ∧ SrcAt w' S A c xs ∧ Two w' (w.heap.size + 1) (w.heap.size) (.slice A4 (List.length L1) c4) (.slice A5 (List.length L2) c5) (L1) (L2)) ⟨by first | omega | (simp; done) | (simp; omega), by simp [*, go_sem], by simp [*, go_sem], fun o => by simp [*, go_sem], (by repeat' (first | with_reducible exact CC.out | with_reducible exact ChgB.refl _ _ _ | with_reducible refine ChgB.setB ?_ ?_ _ | with_reducible refine ChgB.alloc ?_ _ | with_reducible refine ChgB.drew ?_ | with_reducible refine ChgB.drewN ?_ _ | omega | (simp; done) | (simp; omega))), SS.out.keepS (by repeat' (first | with_reducible exact Keep.refl _ _ _ | with_reducible refine Keep.setB ?_ ?_ _ | with_reducible refine Keep.alloc ?_ ?_ _ | with_reducible refine Keep.drew ?_ | omega | (simp; done) | (simp; omega))), TT.out.keep (by repeat' (first | with_reducible exact KeepX.refl _ _ _ _ | with_reducible refine KeepX.setB ?_ ?_ _ | with_reducible refine KeepX.alloc ?_ ?_ _ | with_reducible refine KeepX.drew ?_ | omega | (simp; done) | (simp; omega)))⟩ ?_
      clear q20 s20 x20 y20 lR20 z20 r0 r1 fR ltR
      rintro w21 ⟨ltR, r0, r1, fR, cc, ss, tt⟩
      have CC := Lib.hid cc; have SS := Lib.hid ss; have TT := Lib.hid tt; clear cc ss tt
      by_cases k0 : n20 = 0
      · subst k0
        have TR := Lib.hid TT.out.res
        obtain ⟨ba, oa, x0, rfl, hba, hx0, cx0⟩ := at_zero TR.out.at.1 i3
        obtain ⟨bb, ob, y0, rfl, hbb, hy0, cy0⟩ := at_zero TR.out.at.2 i4
        obtain ⟨pa1, pa2, pa3⟩ := TR.out.1.pin i5
        obtain ⟨pb1, pb2, pb3⟩ := TR.out.2.1.pin i6
        have fa : ∀ o, w21.frozen? ⟨ba, o, none⟩ = false := by
          rcases pa3.2.2 with e | ⟨b, off, e, _, _, _, hf, _⟩
          · exact absurd e i5
          · simp only [Option.some.injEq, Addr.mk.injEq, and_true] at e; obtain ⟨rfl, rfl⟩ := e; exact hf
        have fb : ∀ o, w21.frozen? ⟨bb, o, none⟩ = false := by
          rcases pb3.2.2 with e | ⟨b, off, e, _, _, _, hf, _⟩
          · exact absurd e i6
          · simp only [Option.some.injEq, Addr.mk.injEq, and_true] at e; obtain ⟨rfl, rfl⟩ := e; exact hf
        have hx0' := Lib.hid hx0; have hy0' := Lib.hid hy0; have PA := Lib.hid pa3; have PB := Lib.hid pb3; clear hx0 hy0 pa3 pb3
        have nR1 : ba ≠ w.heap.size := by omega
        have nR2 : bb ≠ w.heap.size := by omega
        have nR3 : w.heap.size ≠ ba := by omega
        have nR4 : w.heap.size ≠ bb := by omega
        have nT1 : ba ≠ S := by omega
        have nT2 : bb ≠ S := by omega
        go_wp2_with (go_at_call 36; refine (l01Pick_any S A c xs _ 0 _ [1, -1] _ (SS.out.keepS (by repeat' (first | with_reducible exact Keep.refl _ _ _ | with_reducible refine Keep.setB ?_ ?_ _ | with_reducible refine Keep.alloc ?_ ?_ _ | with_reducible refine Keep.drew ?_ | omega | (simp; done) | (simp; omega)))) ⟨by simp, by simp, .inr ⟨_, 0, rfl, by first | omega | (simp; done) | (simp; omega), fun i x hx => by rcases i with _ | _ | _ | _ | i <;> simp at hx <;> subst hx <;> simp [*, go_sem]⟩⟩ (by simp) (by first | omega | (simp; omega))).mono ?_; rintro e w22 ⟨⟨n22, rfl, nm22⟩, s22', ch22⟩; clear nm22; have CC := Lib.hid ((show ChgB S (S + 1) w _ from (by repeat' (first | with_reducible exact CC.out | with_reducible exact ChgB.refl _ _ _ | with_reducible refine ChgB.setB ?_ ?_ _ | with_reducible refine ChgB.alloc ?_ _ | with_reducible refine ChgB.drew ?_ | with_reducible refine ChgB.drewN ?_ _ | omega | (simp; done) | (simp; omega)))).trans ch22.toB); have TT := Lib.hid ((TT.out.keep (by repeat' (first | with_reducible exact KeepX.refl _ _ _ _ | with_reducible refine KeepX.setB ?_ ?_ _ | with_reducible refine KeepX.alloc ?_ ?_ _ | with_reducible refine KeepX.drew ?_ | omega | (simp; done) | (simp; omega)))).keep (ch22.keepX (by omega))); have SS := Lib.hid s22'; obtain ⟨q22, s22, x22, y22⟩ := ckeepS [w.heap.size, ba] (by first | (simp; done) | (simp; omega)) ch22; have z22 := Nat.le_of_eq ch22.size.symm; (try simp only [World.size_alloc, World.size_drew, size_set] at z22); clear s22' ch22; have lR22 : w.heap.size < w22.heap.size := x22 _ (by simp))
        refine bodyPost_ret (by simp [results, Tryz.results58, go_sem, *] <;> rfl) rfl ?_
        refine ⟨⟨_, _, _, _, (L1.set 0 n22), L2, by rw [List.length_set], ResP.mono (lo := w.heap.size + 1) (hi := w22.heap.size) (ResP.kept (ResP.setFst TT.out.res i3) ?_) (by omega) (by simp only [size_set]; omega), by first | omega | (simp; done) | (simp; omega), by first | omega | (simp; done) | (simp; omega), by first | omega | (simp; done) | (simp; omega), by first | omega | (simp; done) | (simp; omega)⟩, SS.out.keepS (by repeat' (first | with_reducible exact Keep.refl _ _ _ | with_reducible refine Keep.setB ?_ ?_ _ | with_reducible refine Keep.alloc ?_ ?_ _ | with_reducible refine Keep.drew ?_ | omega | (simp; done) | (simp; omega))), (by repeat' (first | with_reducible exact CC.out | with_reducible exact ChgB.refl _ _ _ | with_reducible refine ChgB.setB ?_ ?_ _ | with_reducible refine ChgB.alloc ?_ _ | with_reducible refine ChgB.drew ?_ | with_reducible refine ChgB.drewN ?_ _ | omega | (simp; done) | (simp; omega)))⟩
        exact (by repeat' (first | with_reducible exact Keep.refl _ _ _ | with_reducible refine Keep.setB ?_ ?_ _ | with_reducible refine Keep.alloc ?_ ?_ _ | with_reducible refine Keep.drew ?_ | omega | (simp; done) | (simp; omega)))
      · by_cases k1 : n20 = 1
        · subst k1
          have TR := Lib.hid TT.out.res
          obtain ⟨ba, oa, x0, rfl, hba, hx0, cx0⟩ := at_zero TR.out.at.1 i3
          obtain ⟨bb, ob, y0, rfl, hbb, hy0, cy0⟩ := at_zero TR.out.at.2 i4
          obtain ⟨pa1, pa2, pa3⟩ := TR.out.1.pin i5
          obtain ⟨pb1, pb2, pb3⟩ := TR.out.2.1.pin i6
          have fa : ∀ o, w21.frozen? ⟨ba, o, none⟩ = false := by
            rcases pa3.2.2 with e | ⟨b, off, e, _, _, _, hf, _⟩
            · exact absurd e i5
            · simp only [Option.some.injEq, Addr.mk.injEq, and_true] at e; obtain ⟨rfl, rfl⟩ := e; exact hf
          have fb : ∀ o, w21.frozen? ⟨bb, o, none⟩ = false := by
            rcases pb3.2.2 with e | ⟨b, off, e, _, _, _, hf, _⟩
            · exact absurd e i6
            · simp only [Option.some.injEq, Addr.mk.injEq, and_true] at e; obtain ⟨rfl, rfl⟩ := e; exact hf
          have hx0' := Lib.hid hx0; have hy0' := Lib.hid hy0; have PA := Lib.hid pa3; have PB := Lib.hid pb3; clear hx0 hy0 pa3 pb3
          have nR1 : ba ≠ w.heap.size := by omega
          have nR2 : bb ≠ w.heap.size := by omega
          have nR3 : w.heap.size ≠ ba := by omega
          have nR4 : w.heap.size ≠ bb := by omega
          have nT1 : ba ≠ S := by omega
          have nT2 : bb ≠ S := by omega
          go_wp2_with (go_at_call 36; refine (l01Pick_any S A c xs _ 0 _ [1300000, 1299999, 1700000, 1700001] _ (SS.out.keepS (by repeat' (first | with_reducible exact Keep.refl _ _ _ | with_reducible refine Keep.setB ?_ ?_ _ | with_reducible refine Keep.alloc ?_ ?_ _ | with_reducible refine Keep.drew ?_ | omega | (simp; done) | (simp; omega)))) ⟨by simp, by simp, .inr ⟨_, 0, rfl, by first | omega | (simp; done) | (simp; omega), fun i x hx => by rcases i with _ | _ | _ | _ | i <;> simp at hx <;> subst hx <;> simp [*, go_sem]⟩⟩ (by simp) (by first | omega | (simp; omega))).mono ?_; rintro e w22 ⟨⟨n22, rfl, nm22⟩, s22', ch22⟩; clear nm22; have CC := Lib.hid ((show ChgB S (S + 1) w _ from (by repeat' (first | with_reducible exact CC.out | with_reducible exact ChgB.refl _ _ _ | with_reducible refine ChgB.setB ?_ ?_ _ | with_reducible refine ChgB.alloc ?_ _ | with_reducible refine ChgB.drew ?_ | with_reducible refine ChgB.drewN ?_ _ | omega | (simp; done) | (simp; omega)))).trans ch22.toB); have TT := Lib.hid ((TT.out.keep (by repeat' (first | with_reducible exact KeepX.refl _ _ _ _ | with_reducible refine KeepX.setB ?_ ?_ _ | with_reducible refine KeepX.alloc ?_ ?_ _ | with_reducible refine KeepX.drew ?_ | omega | (simp; done) | (simp; omega)))).keep (ch22.keepX (by omega))); have SS := Lib.hid s22'; obtain ⟨q22, s22, x22, y22⟩ := ckeepS [w.heap.size, bb] (by first | (simp; done) | (simp; omega)) ch22; have z22 := Nat.le_of_eq ch22.size.symm; (try simp only [World.size_alloc, World.size_drew, size_set] at z22); clear s22' ch22; have lR22 : w.heap.size < w22.heap.size := x22 _ (by simp))
          refine bodyPost_ret (by simp [results, Tryz.results58, go_sem, *] <;> rfl) rfl ?_
          refine ⟨⟨_, _, _, _, L1, (L2.set 0 n22), by rw [List.length_set], ResP.mono (lo := w.heap.size + 1) (hi := w22.heap.size) (ResP.kept (ResP.setSnd TT.out.res i4) ?_) (by omega) (by simp only [size_set]; omega), by first | omega | (simp; done) | (simp; omega), by first | omega | (simp; done) | (simp; omega), by first | omega | (simp; done) | (simp; omega), by first | omega | (simp; done) | (simp; omega)⟩, SS.out.keepS (by repeat' (first | with_reducible exact Keep.refl _ _ _ | with_reducible refine Keep.setB ?_ ?_ _ | with_reducible refine Keep.alloc ?_ ?_ _ | with_reducible refine Keep.drew ?_ | omega | (simp; done) | (simp; omega))), (by repeat' (first | with_reducible exact CC.out | with_reducible exact ChgB.refl _ _ _ | with_reducible refine ChgB.setB ?_ ?_ _ | with_reducible refine ChgB.alloc ?_ _ | with_reducible refine ChgB.drew ?_ | with_reducible refine ChgB.drewN ?_ _ | omega | (simp; done) | (simp; omega)))⟩
          exact (by repeat' (first | with_reducible exact Keep.refl _ _ _ | with_reducible refine Keep.setB ?_ ?_ _ | with_reducible refine Keep.alloc ?_ ?_ _ | with_reducible refine Keep.drew ?_ | omega | (simp; done) | (simp; omega)))
        · by_cases k2 : n20 = 2
          · subst k2
            go_upto_region 17 with (first
              | (go_at_call 36; refine (l01Pick_any S A c xs _ 0 _ [1000000, 1000001, 5] _ (SS.out.keepS (by repeat' (first | with_reducible exact Keep.refl _ _ _ | with_reducible refine Keep.setB ?_ ?_ _ | with_reducible refine Keep.alloc ?_ ?_ _ | with_reducible refine Keep.drew ?_ | omega | (simp; done) | (simp; omega)))) ⟨by simp, by simp, .inr ⟨_, 0, rfl, by first | omega | (simp; done) | (simp; omega), fun i x hx => by rcases i with _ | _ | _ | _ | i <;> simp at hx <;> subst hx <;> simp [*, go_sem]⟩⟩ (by simp) (by first | omega | (simp; omega))).mono ?_; rintro e w22 ⟨⟨n22, rfl, nm22⟩, s22', ch22⟩; clear nm22; have CC := Lib.hid ((show ChgB S (S + 1) w _ from (by repeat' (first | with_reducible exact CC.out | with_reducible exact ChgB.refl _ _ _ | with_reducible refine ChgB.setB ?_ ?_ _ | with_reducible refine ChgB.alloc ?_ _ | with_reducible refine ChgB.drew ?_ | with_reducible refine ChgB.drewN ?_ _ | omega | (simp; done) | (simp; omega)))).trans ch22.toB); have TT := Lib.hid ((TT.out.keep (by repeat' (first | with_reducible exact KeepX.refl _ _ _ _ | with_reducible refine KeepX.setB ?_ ?_ _ | with_reducible refine KeepX.alloc ?_ ?_ _ | with_reducible refine KeepX.drew ?_ | omega | (simp; done) | (simp; omega)))).keep (ch22.keepX (by omega))); have SS := Lib.hid s22'; obtain ⟨q22, s22, x22, y22⟩ := ckeepS [w.heap.size] (by first | (simp; done) | (simp; omega)) ch22; have z22 := Nat.le_of_eq ch22.size.symm; (try simp only [World.size_alloc, World.size_drew, size_set] at z22); clear s22' ch22; have lR22 : w.heap.size < w22.heap.size := x22 _ (by simp))
              | (at_builtin; refine listTwo rfl _ _ rfl (w.heap.size + 1) (w.heap.size) _ _ _ _ (n22) _ rfl rfl ?_ (TT.out.keep (by repeat' (first | with_reducible exact KeepX.refl _ _ _ _ | with_reducible refine KeepX.setB ?_ ?_ _ | with_reducible refine KeepX.alloc ?_ ?_ _ | with_reducible refine KeepX.drew ?_ | omega | (simp; done) | (simp; omega)))) ?_ ?_ ?_ ?_; (focus (simp [*, go_sem]; done)); (focus (first | omega | (simp; omega))); (focus (first | omega | (simp; omega))); (focus (first | omega | (simp; omega))); intro A23' c23' w23 T23 F23; have CC := Lib.hid ((show ChgB S (S + 1) w _ from (by repeat' (first | with_reducible exact CC.out | with_reducible exact ChgB.refl _ _ _ | with_reducible refine ChgB.setB ?_ ?_ _ | with_reducible refine ChgB.alloc ?_ _ | with_reducible refine ChgB.drew ?_ | with_reducible refine ChgB.drewN ?_ _ | omega | (simp; done) | (simp; omega)))).far F23 (by omega)); have SS := Lib.hid ((SS.out.keepS (by repeat' (first | with_reducible exact Keep.refl _ _ _ | with_reducible refine Keep.setB ?_ ?_ _ | with_reducible refine Keep.alloc ?_ ?_ _ | with_reducible refine Keep.drew ?_ | omega | (simp; done) | (simp; omega)))).keepS (F23.keep (by omega) (by first | omega | (simp; omega)))); have TT := Lib.hid T23; obtain ⟨q23, s23, x23, y23⟩ := fkeep [w.heap.size] (by first | (simp; done) | (simp; omega)) F23; have z23 := F23.size; (try simp only [World.size_alloc, World.size_drew, size_set] at z23); clear T23 F23; have lR23 : w.heap.size < w23.heap.size := x23 _ (by simp)))
            go_wp2_with (at_builtin; refine listTwo rfl _ _ rfl (w.heap.size + 1) (w.heap.size) _ _ _ _ (1500000) _ rfl rfl ?_ (TT.out.symm.keep (by repeat' (first | with_reducible exact KeepX.refl _ _ _ _ | with_reducible refine KeepX.setB ?_ ?_ _ | with_reducible refine KeepX.alloc ?_ ?_ _ | with_reducible refine KeepX.drew ?_ | omega | (simp; done) | (simp; omega)))) ?_ ?_ ?_ ?_; (focus (simp [*, go_sem]; done)); (focus (first | omega | (simp; omega))); (focus (first | omega | (simp; omega))); (focus (first | omega | (simp; omega))); intro A24' c24' w24 T24 F24; have CC := Lib.hid ((show ChgB S (S + 1) w _ from (by repeat' (first | with_reducible exact CC.out | with_reducible exact ChgB.refl _ _ _ | with_reducible refine ChgB.setB ?_ ?_ _ | with_reducible refine ChgB.alloc ?_ _ | with_reducible refine ChgB.drew ?_ | with_reducible refine ChgB.drewN ?_ _ | omega | (simp; done) | (simp; omega)))).far F24 (by omega)); have SS := Lib.hid ((SS.out.keepS (by repeat' (first | with_reducible exact Keep.refl _ _ _ | with_reducible refine Keep.setB ?_ ?_ _ | with_reducible refine Keep.alloc ?_ ?_ _ | with_reducible refine Keep.drew ?_ | omega | (simp; done) | (simp; omega)))).keepS (F24.keep (by omega) (by first | omega | (simp; omega)))); have TT := Lib.hid T24.symm; obtain ⟨q24, s24, x24, y24⟩ := fkeep [w.heap.size] (by first | (simp; done) | (simp; omega)) F24; have z24 := F24.size; (try simp only [World.size_alloc, World.size_drew, size_set] at z24); clear T24 F24; have lR24 : w.heap.size < w24.heap.size := x24 _ (by simp))
            refine bodyPost_ret (by simp [results, Tryz.results58, go_sem, *] <;> rfl) rfl ?_
            exact ⟨⟨_, _, _, _, (L1 ++ [n22]), (L2 ++ [1500000]), by simp, (TT.out.keep (by repeat' (first | with_reducible exact KeepX.refl _ _ _ _ | with_reducible refine KeepX.setB ?_ ?_ _ | with_reducible refine KeepX.alloc ?_ ?_ _ | with_reducible refine KeepX.drew ?_ | omega | (simp; done) | (simp; omega)))).res.mono (by omega) (Nat.le_refl _), by first | omega | (simp; done) | (simp; omega), by first | omega | (simp; done) | (simp; omega), by first | omega | (simp; done) | (simp; omega), by first | omega | (simp; done) | (simp; omega)⟩, SS.out.keepS (by repeat' (first | with_reducible exact Keep.refl _ _ _ | with_reducible refine Keep.setB ?_ ?_ _ | with_reducible refine Keep.alloc ?_ ?_ _ | with_reducible refine Keep.drew ?_ | omega | (simp; done) | (simp; omega))), (by repeat' (first | with_reducible exact CC.out | with_reducible exact ChgB.refl _ _ _ | with_reducible refine ChgB.setB ?_ ?_ _ | with_reducible refine ChgB.alloc ?_ _ | with_reducible refine ChgB.drew ?_ | with_reducible refine ChgB.drewN ?_ _ | omega | (simp; done) | (simp; omega)))⟩
          · by_cases k3 : n20 = 3
            · subst k3
              go_wp2_with (at_builtin; refine listTwo rfl _ _ rfl (w.heap.size + 1) (w.heap.size) _ _ _ _ (ta) _ rfl rfl ?_ (TT.out.keep (by repeat' (first | with_reducible exact KeepX.refl _ _ _ _ | with_reducible refine KeepX.setB ?_ ?_ _ | with_reducible refine KeepX.alloc ?_ ?_ _ | with_reducible refine KeepX.drew ?_ | omega | (simp; done) | (simp; omega)))) ?_ ?_ ?_ ?_; (focus (simp [*, go_sem]; done)); (focus (first | omega | (simp; omega))); (focus (first | omega | (simp; omega))); (focus (first | omega | (simp; omega))); intro A22' c22' w22 T22 F22; have CC := Lib.hid ((show ChgB S (S + 1) w _ from (by repeat' (first | with_reducible exact CC.out | with_reducible exact ChgB.refl _ _ _ | with_reducible refine ChgB.setB ?_ ?_ _ | with_reducible refine ChgB.alloc ?_ _ | with_reducible refine ChgB.drew ?_ | with_reducible refine ChgB.drewN ?_ _ | omega | (simp; done) | (simp; omega)))).far F22 (by omega)); have SS := Lib.hid ((SS.out.keepS (by repeat' (first | with_reducible exact Keep.refl _ _ _ | with_reducible refine Keep.setB ?_ ?_ _ | with_reducible refine Keep.alloc ?_ ?_ _ | with_reducible refine Keep.drew ?_ | omega | (simp; done) | (simp; omega)))).keepS (F22.keep (by omega) (by first | omega | (simp; omega)))); have TT := Lib.hid T22; obtain ⟨q22, s22, x22, y22⟩ := fkeep [w.heap.size] (by first | (simp; done) | (simp; omega)) F22; have z22 := F22.size; (try simp only [World.size_alloc, World.size_drew, size_set] at z22); clear T22 F22; have lR22 : w.heap.size < w22.heap.size := x22 _ (by simp))
              refine bodyPost_ret (by simp [results, Tryz.results58, go_sem, *] <;> rfl) rfl ?_
              exact ⟨⟨_, _, _, _, (L1 ++ [ta]), L2, by simp, (TT.out.keep (by repeat' (first | with_reducible exact KeepX.refl _ _ _ _ | with_reducible refine KeepX.setB ?_ ?_ _ | with_reducible refine KeepX.alloc ?_ ?_ _ | with_reducible refine KeepX.drew ?_ | omega | (simp; done) | (simp; omega)))).res.mono (by omega) (Nat.le_refl _), by first | omega | (simp; done) | (simp; omega), by first | omega | (simp; done) | (simp; omega), by first | omega | (simp; done) | (simp; omega), by first | omega | (simp; done) | (simp; omega)⟩, SS.out.keepS (by repeat' (first | with_reducible exact Keep.refl _ _ _ | with_reducible refine Keep.setB ?_ ?_ _ | with_reducible refine Keep.alloc ?_ ?_ _ | with_reducible refine Keep.drew ?_ | omega | (simp; done) | (simp; omega))), (by repeat' (first | with_reducible exact CC.out | with_reducible exact ChgB.refl _ _ _ | with_reducible refine ChgB.setB ?_ ?_ _ | with_reducible refine ChgB.alloc ?_ _ | with_reducible refine ChgB.drew ?_ | with_reducible refine ChgB.drewN ?_ _ | omega | (simp; done) | (simp; omega)))⟩
            · by_cases k4 : n20 = 4
              · subst k4
                have TT := Lib.hid (Two.none_ w21 (w.heap.size + 1) (w.heap.size))
                go_upto_region 23 with fail
                go_loopw [3, 4, 8] (fun s3 s4 s8 wr => ∃ (k : Nat) (M1 M2 : List Int), s8 = .int .i64 k ∧ k ≤ 13 ∧ M1.length = k ∧ M2.length = k ∧ w.heap.size < wr.heap.size ∧ wr.cell? ⟨w.heap.size, 0, none⟩ = some (.slice none 0 0) ∧ wr.cell? ⟨w.heap.size, 1, none⟩ = some (.slice none 0 0) ∧ (∀ o, wr.frozen? ⟨w.heap.size, o, none⟩ = false) ∧ ChgB S (S + 1) w wr ∧ SrcAt wr S A c xs ∧ Two wr (w.heap.size + 1) (w.heap.size) (s3) (s4) (M1) (M2)) (fun _ _ s8 _ => 13 - (intOf s8).toNat)
                case atStart => exact ⟨0, [], [], rfl, by omega, rfl, rfl, ltR, r0, r1, fR, CC.out, SS.out, TT.out⟩
                case round =>
                  clear r0 r1 fR ltR CC SS TT
                  obtain ⟨k, M1, M2, rfl, hk, e1_, e2_, ltR, r0, r1, fR, cc, ss, tt⟩ := hrel
                  obtain ⟨A6, c6, e6, hc6, -⟩ := tt.o1; obtain ⟨A7, c7, e7, hc7, -⟩ := tt.o2
                  subst e6 e7
                  have CC := Lib.hid cc; have SS := Lib.hid ss; have TT := Lib.hid tt; clear cc ss tt
                  have g1 : M1.length ≤ k := by omega
                  have g2 : k ≤ M1.length := by omega
                  have g3 : M2.length ≤ k := by omega
                  have g4 : k ≤ M2.length := by omega
                  clear e1_ e2_
                  go_wp2_with (first
                    | (go_at_call 35; refine (l01Next_any S A c xs _ _ (SS.out.keepS (by repeat' (first | with_reducible exact Keep.refl _ _ _ | with_reducible refine Keep.setB ?_ ?_ _ | with_reducible refine Keep.alloc ?_ ?_ _ | with_reducible refine Keep.drew ?_ | omega | (simp; done) | (simp; omega))))).mono ?_; rintro e w30 ⟨⟨n30, rfl, n300, n301⟩, s30', ch30⟩; have CC := Lib.hid ((show ChgB S (S + 1) w _ from (by repeat' (first | with_reducible exact CC.out | with_reducible exact ChgB.refl _ _ _ | with_reducible refine ChgB.setB ?_ ?_ _ | with_reducible refine ChgB.alloc ?_ _ | with_reducible refine ChgB.drew ?_ | with_reducible refine ChgB.drewN ?_ _ | omega | (simp; done) | (simp; omega)))).trans ch30.toB); have TT := Lib.hid ((TT.out.keep (by repeat' (first | with_reducible exact KeepX.refl _ _ _ _ | with_reducible refine KeepX.setB ?_ ?_ _ | with_reducible refine KeepX.alloc ?_ ?_ _ | with_reducible refine KeepX.drew ?_ | omega | (simp; done) | (simp; omega)))).keep (ch30.keepX (by omega))); have SS := Lib.hid s30'; obtain ⟨q30, s30, x30, y30⟩ := ckeepS [w.heap.size] (by first | (simp; done) | (simp; omega)) ch30; have z30 := Nat.le_of_eq ch30.size.symm; (try simp only [World.size_alloc, World.size_drew, size_set] at z30); clear s30' ch30; have lR30 : w.heap.size < w30.heap.size := x30 _ (by simp))
                    | (at_builtin; refine listTwo rfl _ _ rfl (w.heap.size + 1) (w.heap.size) _ _ _ _ (100 * (k : Int)) _ rfl rfl ?_ (TT.out.keep (by repeat' (first | with_reducible exact KeepX.refl _ _ _ _ | with_reducible refine KeepX.setB ?_ ?_ _ | with_reducible refine KeepX.alloc ?_ ?_ _ | with_reducible refine KeepX.drew ?_ | omega | (simp; done) | (simp; omega)))) ?_ ?_ ?_ ?_; (focus (simp [*, go_sem]; done)); (focus (first | omega | (simp; omega))); (focus (first | omega | (simp; omega))); (focus (first | omega | (simp; omega))); intro A31' c31' w31 T31 F31; have CC := Lib.hid ((show ChgB S (S + 1) w _ from (by repeat' (first | with_reducible exact CC.out | with_reducible exact ChgB.refl _ _ _ | with_reducible refine ChgB.setB ?_ ?_ _ | with_reducible refine ChgB.alloc ?_ _ | with_reducible refine ChgB.drew ?_ | with_reducible refine ChgB.drewN ?_ _ | omega | (simp; done) | (simp; omega)))).far F31 (by omega)); have SS := Lib.hid ((SS.out.keepS (by repeat' (first | with_reducible exact Keep.refl _ _ _ | with_reducible refine Keep.setB ?_ ?_ _ | with_reducible refine Keep.alloc ?_ ?_ _ | with_reducible refine Keep.drew ?_ | omega | (simp; done) | (simp; omega)))).keepS (F31.keep (by omega) (by first | omega | (simp; omega)))); have TT := Lib.hid T31; obtain ⟨q31, s31, x31, y31⟩ := fkeep [w.heap.size] (by first | (simp; done) | (simp; omega)) F31; have z31 := F31.size; (try simp only [World.size_alloc, World.size_drew, size_set] at z31); clear T31 F31; have lR31 : w.heap.size < w31.heap.size := x31 _ (by simp))
                    | (at_builtin; refine listTwo rfl _ _ rfl (w.heap.size + 1) (w.heap.size) _ _ _ _ (1500000 + (k : Int)) _ rfl rfl ?_ (TT.out.symm.keep (by repeat' (first | with_reducible exact KeepX.refl _ _ _ _ | with_reducible refine KeepX.setB ?_ ?_ _ | with_reducible refine KeepX.alloc ?_ ?_ _ | with_reducible refine KeepX.drew ?_ | omega | (simp; done) | (simp; omega)))) ?_ ?_ ?_ ?_; (focus (simp [*, go_sem]; done)); (focus (first | omega | (simp; omega))); (focus (first | omega | (simp; omega))); (focus (first | omega | (simp; omega))); intro A32' c32' w32 T32 F32; have CC := Lib.hid ((show ChgB S (S + 1) w _ from (by repeat' (first | with_reducible exact CC.out | with_reducible exact ChgB.refl _ _ _ | with_reducible refine ChgB.setB ?_ ?_ _ | with_reducible refine ChgB.alloc ?_ _ | with_reducible refine ChgB.drew ?_ | with_reducible refine ChgB.drewN ?_ _ | omega | (simp; done) | (simp; omega)))).far F32 (by omega)); have SS := Lib.hid ((SS.out.keepS (by repeat' (first | with_reducible exact Keep.refl _ _ _ | with_reducible refine Keep.setB ?_ ?_ _ | with_reducible refine Keep.alloc ?_ ?_ _ | with_reducible refine Keep.drew ?_ | omega | (simp; done) | (simp; omega)))).keepS (F32.keep (by omega) (by first | omega | (simp; omega)))); have TT := Lib.hid T32.symm; obtain ⟨q32, s32, x32, y32⟩ := fkeep [w.heap.size] (by first | (simp; done) | (simp; omega)) F32; have z32 := F32.size; (try simp only [World.size_alloc, World.size_drew, size_set] at z32); clear T32 F32; have lR32 : w.heap.size < w32.heap.size := x32 _ (by simp)))
                  · go_roundw
                    case rel => exact ⟨k + 1, M1 ++ [100 * (k : Int)], M2 ++ [1500000 + (k : Int)], by go_num, by omega, by simp; omega, by simp; omega, by first | omega | (simp; done) | (simp; omega), by simp [*, go_sem], by simp [*, go_sem], fun o => by simp [*, go_sem], (by repeat' (first | with_reducible exact CC.out | with_reducible exact ChgB.refl _ _ _ | with_reducible refine ChgB.setB ?_ ?_ _ | with_reducible refine ChgB.alloc ?_ _ | with_reducible refine ChgB.drew ?_ | with_reducible refine ChgB.drewN ?_ _ | omega | (simp; done) | (simp; omega))), SS.out.keepS (by repeat' (first | with_reducible exact Keep.refl _ _ _ | with_reducible refine Keep.setB ?_ ?_ _ | with_reducible refine Keep.alloc ?_ ?_ _ | with_reducible refine Keep.drew ?_ | omega | (simp; done) | (simp; omega))), TT.out.keep (by repeat' (first | with_reducible exact KeepX.refl _ _ _ _ | with_reducible refine KeepX.setB ?_ ?_ _ | with_reducible refine KeepX.alloc ?_ ?_ _ | with_reducible refine KeepX.drew ?_ | omega | (simp; done) | (simp; omega)))⟩
                    case measure => simp [intOf]; omega
                  · refine bodyPost_ret (by simp [results, Tryz.results58, go_sem, *] <;> rfl) rfl ?_
                    exact ⟨⟨_, _, _, _, M1, M2, by simp, (TT.out.keep (by repeat' (first | with_reducible exact KeepX.refl _ _ _ _ | with_reducible refine KeepX.setB ?_ ?_ _ | with_reducible refine KeepX.alloc ?_ ?_ _ | with_reducible refine KeepX.drew ?_ | omega | (simp; done) | (simp; omega)))).res.mono (by omega) (Nat.le_refl _), by first | omega | (simp; done) | (simp; omega), by first | omega | (simp; done) | (simp; omega), by first | omega | (simp; done) | (simp; omega), by first | omega | (simp; done) | (simp; omega)⟩, SS.out.keepS (by repeat' (first | with_reducible exact Keep.refl _ _ _ | with_reducible refine Keep.setB ?_ ?_ _ | with_reducible refine Keep.alloc ?_ ?_ _ | with_reducible refine Keep.drew ?_ | omega | (simp; done) | (simp; omega))), (by repeat' (first | with_reducible exact CC.out | with_reducible exact ChgB.refl _ _ _ | with_reducible refine ChgB.setB ?_ ?_ _ | with_reducible refine ChgB.alloc ?_ _ | with_reducible refine ChgB.drew ?_ | with_reducible refine ChgB.drewN ?_ _ | omega | (simp; done) | (simp; omega)))⟩
              · go_wp2_with fail
                refine bodyPost_ret (by simp [results, Tryz.results58, go_sem, *] <;> rfl) rfl ?_
                exact ⟨⟨_, _, _, _, L1, L2, by simp, (TT.out.keep (by repeat' (first | with_reducible exact KeepX.refl _ _ _ _ | with_reducible refine KeepX.setB ?_ ?_ _ | with_reducible refine KeepX.alloc ?_ ?_ _ | with_reducible refine KeepX.drew ?_ | omega | (simp; done) | (simp; omega)))).res.mono (by omega) (Nat.le_refl _), by first | omega | (simp; done) | (simp; omega), by first | omega | (simp; done) | (simp; omega), by first | omega | (simp; done) | (simp; omega), by first | omega | (simp; done) | (simp; omega)⟩, SS.out.keepS (by repeat' (first | with_reducible exact Keep.refl _ _ _ | with_reducible refine Keep.setB ?_ ?_ _ | with_reducible refine Keep.alloc ?_ ?_ _ | with_reducible refine Keep.drew ?_ | omega | (simp; done) | (simp; omega))), (by repeat' (first | with_reducible exact CC.out | with_reducible exact ChgB.refl _ _ _ | with_reducible refine ChgB.setB ?_ ?_ _ | with_reducible refine ChgB.alloc ?_ _ | with_reducible refine ChgB.drew ?_ | with_reducible refine ChgB.drewN ?_ _ | omega | (simp; done) | (simp; omega)))⟩
    · have hm : (0 : Int) < (m : Int) + 1 := by omega
      go_upto_region 7 with (at_builtin; refine listTwo rfl _ _ rfl (w.heap.size + 1) (w.heap.size) _ _ _ _ (ta) _ rfl rfl ?_ (TT.out.keep (by repeat' (first | with_reducible exact KeepX.refl _ _ _ _ | with_reducible refine KeepX.setB ?_ ?_ _ | with_reducible refine KeepX.alloc ?_ ?_ _ | with_reducible refine KeepX.drew ?_ | omega | (simp; done) | (simp; omega)))) ?_ ?_ ?_ ?_; (focus (simp [*, go_sem]; done)); (focus (first | omega | (simp; omega))); (focus (first | omega | (simp; omega))); (focus (first | omega | (simp; omega))); intro A10' c10' w10 T10 F10; have CC := Lib.hid ((show ChgB S (S + 1) w _ from (by repeat' (first | with_reducible exact CC.out | with_reducible exact ChgB.refl _ _ _ | with_reducible refine ChgB.setB ?_ ?_ _ | with_reducible refine ChgB.alloc ?_ _ | with_reducible refine ChgB.drew ?_ | with_reducible refine ChgB.drewN ?_ _ | omega | (simp; done) | (simp; omega)))).far F10 (by omega)); have SS := Lib.hid ((SS.out.keepS (by repeat' (first | with_reducible exact Keep.refl _ _ _ | with_reducible refine Keep.setB ?_ ?_ _ | with_reducible refine Keep.alloc ?_ ?_ _ | with_reducible refine Keep.drew ?_ | omega | (simp; done) | (simp; omega)))).keepS (F10.keep (by omega) (by first | omega | (simp; omega)))); have TT := Lib.hid T10; obtain ⟨q10, s10, x10, y10⟩ := fkeep [w.heap.size] (by first | (simp; done) | (simp; omega)) F10; have z10 := F10.size; (try simp only [World.size_alloc, World.size_drew, size_set] at z10); clear T10 F10; have lR10 : w.heap.size < w10.heap.size := x10 _ (by simp))
      go_upto_region 8 with (at_builtin; refine listTwo rfl _ _ rfl (w.heap.size + 1) (w.heap.size) _ _ _ _ (tl) _ rfl rfl ?_ (TT.out.symm.keep (by repeat' (first | with_reducible exact KeepX.refl _ _ _ _ | with_reducible refine KeepX.setB ?_ ?_ _ | with_reducible refine KeepX.alloc ?_ ?_ _ | with_reducible refine KeepX.drew ?_ | omega | (simp; done) | (simp; omega)))) ?_ ?_ ?_ ?_; (focus (simp [*, go_sem]; done)); (focus (first | omega | (simp; omega))); (focus (first | omega | (simp; omega))); (focus (first | omega | (simp; omega))); intro A11' c11' w11 T11 F11; have CC := Lib.hid ((show ChgB S (S + 1) w _ from (by repeat' (first | with_reducible exact CC.out | with_reducible exact ChgB.refl _ _ _ | with_reducible refine ChgB.setB ?_ ?_ _ | with_reducible refine ChgB.alloc ?_ _ | with_reducible refine ChgB.drew ?_ | with_reducible refine ChgB.drewN ?_ _ | omega | (simp; done) | (simp; omega)))).far F11 (by omega)); have SS := Lib.hid ((SS.out.keepS (by repeat' (first | with_reducible exact Keep.refl _ _ _ | with_reducible refine Keep.setB ?_ ?_ _ | with_reducible refine Keep.alloc ?_ ?_ _ | with_reducible refine Keep.drew ?_ | omega | (simp; done) | (simp; omega)))).keepS (F11.keep (by omega) (by first | omega | (simp; omega)))); have TT := Lib.hid T11.symm; obtain ⟨q11, s11, x11, y11⟩ := fkeep [w.heap.size] (by first | (simp; done) | (simp; omega)) F11; have z11 := F11.size; (try simp only [World.size_alloc, World.size_drew, size_set] at z11); clear T11 F11; have lR11 : w.heap.size < w11.heap.size := x11 _ (by simp))
      refine genS (S := fun w' => w.heap.size < w'.heap.size ∧ w'.cell? ⟨w.heap.size, 0, none⟩ = some (.slice none 0 0) ∧ w'.cell? ⟨w.heap.size, 1, none⟩ = some (.slice none 0 0) ∧ (∀ o, w'.frozen? ⟨w.heap.size, o, none⟩ = false) ∧ ChgB S (S + 1) w w' ∧ SrcAt w' S A c xs ∧ Two w' (w.heap.size + 1) (w.heap.size) (.slice A10' (L1.length + 1) c10') (.slice A11' (L2.length + 1) c11') (L1 ++ [ta]) (L2 ++ [tl])) ⟨by first | omega | (simp; done) | (simp; omega), by simp [*, go_sem], by simp [*, go_sem], fun o => by simp [*, go_sem], (by repeat' (first | with_reducible exact CC.out | with_reducible exact ChgB.refl _ _ _ | with_reducible refine ChgB.setB ?_ ?_ _ | with_reducible refine ChgB.alloc ?_ _ | with_reducible refine ChgB.drew ?_ | with_reducible refine ChgB.drewN ?_ _ | omega | (simp; done) | (simp; omega))), SS.out.keepS (by repeat' (first | with_reducible exact Keep.refl _ _ _ | with_reducible refine Keep.setB ?_ ?_ _ | with_reducible refine Keep.alloc ?_ ?_ _ | with_reducible refine Keep.drew ?_ | omega | (simp; done) | (simp; omega))), TT.out.keep (by repeat' (first | with_reducible exact KeepX.refl _ _ _ _ | with_reducible refine KeepX.setB ?_ ?_ _ | with_reducible refine KeepX.alloc ?_ ?_ _ | with_reducible refine KeepX.drew ?_ | omega | (simp; done) | (simp; omega)))⟩ ?_
      clear q10 s10 x10 y10 z10 lR10 q11 s11 x11 y11 z11 lR11 r0 r1 fR ltR
      rintro w12 ⟨ltR, r0, r1, fR, cc, ss, tt⟩
      have CC := Lib.hid cc; have SS := Lib.hid ss; have TT := Lib.hid tt; clear cc ss tt
      go_upto_region 9 with (go_at_call 35; refine (l01Next_any S A c xs _ _ (SS.out.keepS (by repeat' (first | with_reducible exact Keep.refl _ _ _ | with_reducible refine Keep.setB ?_ ?_ _ | with_reducible refine Keep.alloc ?_ ?_ _ | with_reducible refine Keep.drew ?_ | omega | (simp; done) | (simp; omega))))).mono ?_; rintro e w13 ⟨⟨n13, rfl, n130, n131⟩, s13', ch13⟩; have CC := Lib.hid ((show ChgB S (S + 1) w _ from (by repeat' (first | with_reducible exact CC.out | with_reducible exact ChgB.refl _ _ _ | with_reducible refine ChgB.setB ?_ ?_ _ | with_reducible refine ChgB.alloc ?_ _ | with_reducible refine ChgB.drew ?_ | with_reducible refine ChgB.drewN ?_ _ | omega | (simp; done) | (simp; omega)))).trans ch13.toB); have TT := Lib.hid ((TT.out.keep (by repeat' (first | with_reducible exact KeepX.refl _ _ _ _ | with_reducible refine KeepX.setB ?_ ?_ _ | with_reducible refine KeepX.alloc ?_ ?_ _ | with_reducible refine KeepX.drew ?_ | omega | (simp; done) | (simp; omega)))).keep (ch13.keepX (by omega))); have SS := Lib.hid s13'; obtain ⟨q13, s13, x13, y13⟩ := ckeepS [w.heap.size] (by first | (simp; done) | (simp; omega)) ch13; have z13 := Nat.le_of_eq ch13.size.symm; (try simp only [World.size_alloc, World.size_drew, size_set] at z13); clear s13' ch13; have lR13 : w.heap.size < w13.heap.size := x13 _ (by simp))
      go_wp2_with (first
        | (go_at_call 35; refine (l01Next_any S A c xs _ _ (SS.out.keepS (by repeat' (first | with_reducible exact Keep.refl _ _ _ | with_reducible refine Keep.setB ?_ ?_ _ | with_reducible refine Keep.alloc ?_ ?_ _ | with_reducible refine Keep.drew ?_ | omega | (simp; done) | (simp; omega))))).mono ?_; rintro e w14 ⟨⟨n14, rfl, n140, n141⟩, s14', ch14⟩; have CC := Lib.hid ((show ChgB S (S + 1) w _ from (by repeat' (first | with_reducible exact CC.out | with_reducible exact ChgB.refl _ _ _ | with_reducible refine ChgB.setB ?_ ?_ _ | with_reducible refine ChgB.alloc ?_ _ | with_reducible refine ChgB.drew ?_ | with_reducible refine ChgB.drewN ?_ _ | omega | (simp; done) | (simp; omega)))).trans ch14.toB); have TT := Lib.hid ((TT.out.keep (by repeat' (first | with_reducible exact KeepX.refl _ _ _ _ | with_reducible refine KeepX.setB ?_ ?_ _ | with_reducible refine KeepX.alloc ?_ ?_ _ | with_reducible refine KeepX.drew ?_ | omega | (simp; done) | (simp; omega)))).keep (ch14.keepX (by omega))); have SS := Lib.hid s14'; obtain ⟨q14, s14, x14, y14⟩ := ckeepS [w.heap.size] (by first | (simp; done) | (simp; omega)) ch14; have z14 := Nat.le_of_eq ch14.size.symm; (try simp only [World.size_alloc, World.size_drew, size_set] at z14); clear s14' ch14; have lR14 : w.heap.size < w14.heap.size := x14 _ (by simp))
        | (go_at_call 36; refine (l01Pick_any S A c xs _ 0 _ [500, 100, 1500, 1] _ (SS.out.keepS (by repeat' (first | with_reducible exact Keep.refl _ _ _ | with_reducible refine Keep.setB ?_ ?_ _ | with_reducible refine Keep.alloc ?_ ?_ _ | with_reducible refine Keep.drew ?_ | omega | (simp; done) | (simp; omega)))) ⟨by simp, by simp, .inr ⟨_, 0, rfl, by first | omega | (simp; done) | (simp; omega), fun i x hx => by rcases i with _ | _ | _ | _ | i <;> simp at hx <;> subst hx <;> simp [*, go_sem]⟩⟩ (by simp) (by first | omega | (simp; omega))).mono ?_; rintro e w15 ⟨⟨n15, rfl, nm15⟩, s15', ch15⟩; clear nm15; have CC := Lib.hid ((show ChgB S (S + 1) w _ from (by repeat' (first | with_reducible exact CC.out | with_reducible exact ChgB.refl _ _ _ | with_reducible refine ChgB.setB ?_ ?_ _ | with_reducible refine ChgB.alloc ?_ _ | with_reducible refine ChgB.drew ?_ | with_reducible refine ChgB.drewN ?_ _ | omega | (simp; done) | (simp; omega)))).trans ch15.toB); have TT := Lib.hid ((TT.out.keep (by repeat' (first | with_reducible exact KeepX.refl _ _ _ _ | with_reducible refine KeepX.setB ?_ ?_ _ | with_reducible refine KeepX.alloc ?_ ?_ _ | with_reducible refine KeepX.drew ?_ | omega | (simp; done) | (simp; omega)))).keep (ch15.keepX (by omega))); have SS := Lib.hid s15'; obtain ⟨q15, s15, x15, y15⟩ := ckeepS [w.heap.size] (by first | (simp; done) | (simp; omega)) ch15; have z15 := Nat.le_of_eq ch15.size.symm; (try simp only [World.size_alloc, World.size_drew, size_set] at z15); clear s15' ch15; have lR15 : w.heap.size < w15.heap.size := x15 _ (by simp)))
      go_roundw
      case rel => exact ⟨_, _, m, L1 ++ [ta], L2 ++ [tl], rfl, rfl, by go_num, by simp; omega, by simp; omega, by simp; omega, by first | omega | (simp; done) | (simp; omega), by simp [*, go_sem], by simp [*, go_sem], fun o => by simp [*, go_sem], (by repeat' (first | with_reducible exact CC.out | with_reducible exact ChgB.refl _ _ _ | with_reducible refine ChgB.setB ?_ ?_ _ | with_reducible refine ChgB.alloc ?_ _ | with_reducible refine ChgB.drew ?_ | with_reducible refine ChgB.drewN ?_ _ | omega | (simp; done) | (simp; omega))), SS.out.keepS (by repeat' (first | with_reducible exact Keep.refl _ _ _ | with_reducible refine Keep.setB ?_ ?_ _ | with_reducible refine Keep.alloc ?_ ?_ _ | with_reducible refine Keep.drew ?_ | omega | (simp; done) | (simp; omega))), TT.out.keep (by repeat' (first | with_reducible exact KeepX.refl _ _ _ _ | with_reducible refine KeepX.setB ?_ ?_ _ | with_reducible refine KeepX.alloc ?_ ?_ _ | with_reducible refine KeepX.drew ?_ | omega | (simp; done) | (simp; omega)))⟩
      case measure => simp [intOf]
end

section
set_option linter.unusedSimpArgs false
set_option linter.unusedVariables false
open Go.RowKit

set_option maxRecDepth 100000 in
set_option maxHeartbeats 8000000 in
theorem l04DrawKnot_any (S : Nat) (A : Option Addr) (c : Nat) (xs : List Int) (w : World) (h : SrcAt w S A c xs) :
    Calls Tryz.prog 33 #[.pointer (some ⟨S, 0, none⟩)] w fun e w' => (∃ A1 c1 A2 c2 ts ls k, e = .returned (.tuple #[profV A1 (List.length ts) c1 A2 (List.length ls) c2, .int .i64 k]) ∧ ResP w' w.heap.size w'.heap.size A1 c1 A2 c2 ts ls ∧ 2 ≤ ts.length ∧ ts.length ≤ 13) ∧ SrcAt w' S A c xs ∧ ChgB S (S + 1) w w' := by
  have ltS := h.lt
  have SS := Lib.hid h; have CC := Lib.hid (ChgB.refl S (S + 1) w); clear h
  have nS0 : w.heap.size ≠ S := by omega
  have nS1 : S ≠ w.heap.size := by omega
  go_enter Tryz.func33, Tryz.ntmps33
  go_upto_region 2 with (go_at_call 58; refine (l04Draw_any S A c xs _ (SS.out.keepS (by repeat' (first | with_reducible exact Keep.refl _ _ _ | with_reducible refine Keep.setB ?_ ?_ _ | with_reducible refine Keep.alloc ?_ ?_ _ | with_reducible refine Keep.drew ?_ | omega | (simp; done) | (simp; omega))))).mono ?_; rintro e w2 ⟨⟨A1, c1, A2, c2, ts, ls, rfl, rp, h1, h2, h3, h4⟩, s2', ch2⟩; have CC := Lib.hid ((show ChgB S (S + 1) w _ from (by repeat' (first | with_reducible exact CC.out | with_reducible exact ChgB.refl _ _ _ | with_reducible refine ChgB.setB ?_ ?_ _ | with_reducible refine ChgB.alloc ?_ _ | with_reducible refine ChgB.drew ?_ | with_reducible refine ChgB.drewN ?_ _ | omega | (simp; done) | (simp; omega)))).trans ch2); have SS := Lib.hid s2'; obtain ⟨z2, q2, f2, x2, y2⟩ := ckeepB [w.heap.size] (by first | (simp; done) | (simp; omega)) ch2; (try simp only [World.size_alloc, World.size_drew, size_set] at z2); clear s2' ch2; have l2_0 := x2 (w.heap.size) (by simp); have RP := Lib.hid rp; clear rp)
  have ne1 : w.heap.size ≠ w2.heap.size := by omega
  have ne2 : w2.heap.size ≠ w.heap.size := by omega
  have nS2 : S ≠ w2.heap.size := by omega
  have nS3 : w2.heap.size ≠ S := by omega
  have RP : Hid (ResP _ (w.heap.size + 1) w2.heap.size A1 c1 A2 c2 ts ls) := Lib.hid (RP.out.mono (by first | (simp; done) | (simp; omega)) (Nat.le_refl _))
  refine genS (S := fun w' => w.heap.size < w'.heap.size ∧ w2.heap.size < w'.heap.size ∧ w'.cell? ⟨w.heap.size, 0, none⟩ = some (.slice none 0 0) ∧ w'.cell? ⟨w.heap.size, 1, none⟩ = some (.slice none 0 0) ∧ w'.cell? ⟨w2.heap.size, 0, none⟩ = some (.slice A1 (List.length ts) c1) ∧ w'.cell? ⟨w2.heap.size, 1, none⟩ = some (.slice A2 (List.length ls) c2) ∧ (∀ o, w'.frozen? ⟨w.heap.size, o, none⟩ = false) ∧ ChgB S (S + 1) w w' ∧ SrcAt w' S A c xs ∧ ResP w' (w.heap.size + 1) w2.heap.size A1 c1 A2 c2 ts ls) ⟨by first | omega | (simp; done) | (simp; omega), by first | omega | (simp; done) | (simp; omega), by simp [*, go_sem], by simp [*, go_sem], by simp [*, go_sem], by simp [*, go_sem], fun o => by simp [*, go_sem], (by repeat' (first | with_reducible exact CC.out | with_reducible exact ChgB.refl _ _ _ | with_reducible refine ChgB.setB ?_ ?_ _ | with_reducible refine ChgB.alloc ?_ _ | with_reducible refine ChgB.drew ?_ | with_reducible refine ChgB.drewN ?_ _ | omega | (simp; done) | (simp; omega))), SS.out.keepS (by repeat' (first | with_reducible exact Keep.refl _ _ _ | with_reducible refine Keep.setB ?_ ?_ _ | with_reducible refine Keep.alloc ?_ ?_ _ | with_reducible refine Keep.drew ?_ | omega | (simp; done) | (simp; omega))), RP.out.kept (by repeat' (first | with_reducible exact Keep.refl _ _ _ | with_reducible refine Keep.setB ?_ ?_ _ | with_reducible refine Keep.alloc ?_ ?_ _ | with_reducible refine Keep.drew ?_ | omega | (simp; done) | (simp; omega)))⟩ ?_
  clear z2 q2 f2 x2 y2 l2_0
  rintro w3 ⟨lt3_0, lt3_1, c3_0, c3_1, c3_2, c3_3, fz3_0, cc, ss, rr_RP⟩
  have CC := Lib.hid cc; have SS := Lib.hid ss; have RP := Lib.hid rr_RP; clear cc ss rr_RP
  go_upto_region 3 with fail
  go_wp2_with fail
  refine (l01Next_any S A c xs _ _ (SS.out.keepS (by repeat' (first | with_reducible exact Keep.refl _ _ _ | with_reducible refine Keep.setB ?_ ?_ _ | with_reducible refine Keep.alloc ?_ ?_ _ | with_reducible refine Keep.drew ?_ | omega | (simp; done) | (simp; omega))))).mono ?_; rintro e w4 ⟨⟨n4, rfl, n40, n41⟩, s4', ch4⟩; have CC := Lib.hid ((show ChgB S (S + 1) w _ from (by repeat' (first | with_reducible exact CC.out | with_reducible exact ChgB.refl _ _ _ | with_reducible refine ChgB.setB ?_ ?_ _ | with_reducible refine ChgB.alloc ?_ _ | with_reducible refine ChgB.drew ?_ | with_reducible refine ChgB.drewN ?_ _ | omega | (simp; done) | (simp; omega)))).trans ch4.toB); have RP := Lib.hid (RP.out.keepB (by repeat' (first | with_reducible exact Keep.refl _ _ _ | with_reducible refine Keep.setB ?_ ?_ _ | with_reducible refine Keep.alloc ?_ ?_ _ | with_reducible refine Keep.drew ?_ | omega | (simp; done) | (simp; omega))) ch4.toB (by omega) (by first | omega | (simp; done) | (simp; omega))); have SS := Lib.hid s4'; obtain ⟨z4, q4, f4, x4, y4⟩ := ckeepB [w.heap.size, w2.heap.size] (by first | (simp; done) | (simp; omega)) ch4.toB; (try simp only [World.size_alloc, World.size_drew, size_set] at z4); clear s4' ch4; have l4_0 := x4 (w.heap.size) (by simp); have l4_1 := x4 (w2.heap.size) (by simp)
  by_cases hn4 : n4 = 0
  · subst hn4
    have W0 : IntKind.i64.wrap ((ts.length : Int) - 1) = (ts.length : Int) - 1 := IntWalk.i64_in _ (by omega)
    go_wp2_with fail
    go_region_held3 (fun w' => w'.cell? ⟨w2.heap.size, 0, none⟩ = some (.slice A1 (List.length ts) c1) ∧ w'.cell? ⟨w2.heap.size, 1, none⟩ = some (.slice A2 (List.length ls) c2)) (first | (go_keep; done) | (simp [*, go_sem]; done))
      (first
        | (go_at_call 36; refine (l01Pick_any S A c xs _ 0 _ [-1, (ts.length : Int) - 1, (ts.length : Int)] _ (SS.out.keepS (by repeat' (first | with_reducible exact Keep.refl _ _ _ | with_reducible refine Keep.setB ?_ ?_ _ | with_reducible refine Keep.alloc ?_ ?_ _ | with_reducible refine Keep.drew ?_ | omega | (simp; done) | (simp; omega)))) ⟨by simp, by simp, .inr ⟨_, 0, rfl, by first | omega | (simp; done) | (simp; omega), fun i x hx => by rcases i with _ | _ | _ | _ | i <;> simp at hx <;> subst hx <;> simp [*, go_sem]⟩⟩ (by simp) (by first | omega | (simp; omega))).mono ?_; rintro e w5 ⟨⟨n5, rfl, nm5⟩, s5', ch5⟩; have CC := Lib.hid ((show ChgB S (S + 1) w _ from (by repeat' (first | with_reducible exact CC.out | with_reducible exact ChgB.refl _ _ _ | with_reducible refine ChgB.setB ?_ ?_ _ | with_reducible refine ChgB.alloc ?_ _ | with_reducible refine ChgB.drew ?_ | with_reducible refine ChgB.drewN ?_ _ | omega | (simp; done) | (simp; omega)))).trans ch5.toB); have RP := Lib.hid (RP.out.keepB (by repeat' (first | with_reducible exact Keep.refl _ _ _ | with_reducible refine Keep.setB ?_ ?_ _ | with_reducible refine Keep.alloc ?_ ?_ _ | with_reducible refine Keep.drew ?_ | omega | (simp; done) | (simp; omega))) ch5.toB (by omega) (by first | omega | (simp; done) | (simp; omega))); have SS := Lib.hid s5'; obtain ⟨z5, q5, f5, x5, y5⟩ := ckeepB [w.heap.size, w2.heap.size] (by first | (simp; done) | (simp; omega)) ch5.toB; (try simp only [World.size_alloc, World.size_drew, size_set] at z5); clear s5' ch5; have l5_0 := x5 (w.heap.size) (by simp); have l5_1 := x5 (w2.heap.size) (by simp); clear nm5))
    clear W0
    go_wp2
    all_goals refine bodyPost_ret (by simp [results, Tryz.results33, go_sem, *] <;> rfl) rfl ?_
    all_goals exact ⟨⟨_, _, _, _, ts, ls, _, rfl, ResP.mono (RP.out.kept (by repeat' (first | with_reducible exact Keep.refl _ _ _ | with_reducible refine Keep.setB ?_ ?_ _ | with_reducible refine Keep.alloc ?_ ?_ _ | with_reducible refine Keep.drew ?_ | omega | (simp; done) | (simp; omega)))) (by first | omega | (simp; done) | (simp; omega)) (by first | omega | (simp; done) | (simp; omega)), h1, h2⟩, SS.out.keepS (by repeat' (first | with_reducible exact Keep.refl _ _ _ | with_reducible refine Keep.setB ?_ ?_ _ | with_reducible refine Keep.alloc ?_ ?_ _ | with_reducible refine Keep.drew ?_ | omega | (simp; done) | (simp; omega))), (by repeat' (first | with_reducible exact CC.out | with_reducible exact ChgB.refl _ _ _ | with_reducible refine ChgB.setB ?_ ?_ _ | with_reducible refine ChgB.alloc ?_ _ | with_reducible refine ChgB.drew ?_ | with_reducible refine ChgB.drewN ?_ _ | omega | (simp; done) | (simp; omega)))⟩
  · have hn5 : (n4 == 0) = false := beq_eq_false_iff_ne.2 hn4
    go_wp2_with fail
    go_region_held3 (fun w' => w'.cell? ⟨w2.heap.size, 0, none⟩ = some (.slice A1 (List.length ts) c1) ∧ w'.cell? ⟨w2.heap.size, 1, none⟩ = some (.slice A2 (List.length ls) c2)) (first | (go_keep; done) | (simp [*, go_sem]; done))
      (first
        | (go_at_call 35; refine (l01Next_any S A c xs _ _ (SS.out.keepS (by repeat' (first | with_reducible exact Keep.refl _ _ _ | with_reducible refine Keep.setB ?_ ?_ _ | with_reducible refine Keep.alloc ?_ ?_ _ | with_reducible refine Keep.drew ?_ | omega | (simp; done) | (simp; omega))))).mono ?_; rintro e w5 ⟨⟨n5, rfl, n50, n51⟩, s5', ch5⟩; have CC := Lib.hid ((show ChgB S (S + 1) w _ from (by repeat' (first | with_reducible exact CC.out | with_reducible exact ChgB.refl _ _ _ | with_reducible refine ChgB.setB ?_ ?_ _ | with_reducible refine ChgB.alloc ?_ _ | with_reducible refine ChgB.drew ?_ | with_reducible refine ChgB.drewN ?_ _ | omega | (simp; done) | (simp; omega)))).trans ch5.toB); have RP := Lib.hid (RP.out.keepB (by repeat' (first | with_reducible exact Keep.refl _ _ _ | with_reducible refine Keep.setB ?_ ?_ _ | with_reducible refine Keep.alloc ?_ ?_ _ | with_reducible refine Keep.drew ?_ | omega | (simp; done) | (simp; omega))) ch5.toB (by omega) (by first | omega | (simp; done) | (simp; omega))); have SS := Lib.hid s5'; obtain ⟨z5, q5, f5, x5, y5⟩ := ckeepB [w.heap.size, w2.heap.size] (by first | (simp; done) | (simp; omega)) ch5.toB; (try simp only [World.size_alloc, World.size_drew, size_set] at z5); clear s5' ch5; have l5_0 := x5 (w.heap.size) (by simp); have l5_1 := x5 (w2.heap.size) (by simp)))
    go_wp2
    all_goals refine bodyPost_ret (by simp [results, Tryz.results33, go_sem, *] <;> rfl) rfl ?_
    all_goals exact ⟨⟨_, _, _, _, ts, ls, _, rfl, ResP.mono (RP.out.kept (by repeat' (first | with_reducible exact Keep.refl _ _ _ | with_reducible refine Keep.setB ?_ ?_ _ | with_reducible refine Keep.alloc ?_ ?_ _ | with_reducible refine Keep.drew ?_ | omega | (simp; done) | (simp; omega)))) (by first | omega | (simp; done) | (simp; omega)) (by first | omega | (simp; done) | (simp; omega)), h1, h2⟩, SS.out.keepS (by repeat' (first | with_reducible exact Keep.refl _ _ _ | with_reducible refine Keep.setB ?_ ?_ _ | with_reducible refine Keep.alloc ?_ ?_ _ | with_reducible refine Keep.drew ?_ | omega | (simp; done) | (simp; omega))), (by repeat' (first | with_reducible exact CC.out | with_reducible exact ChgB.refl _ _ _ | with_reducible refine ChgB.setB ?_ ?_ _ | with_reducible refine ChgB.alloc ?_ _ | with_reducible refine ChgB.drew ?_ | with_reducible refine ChgB.drewN ?_ _ | omega | (simp; done) | (simp; omega)))⟩
end

section
set_option linter.unusedSimpArgs false
set_option linter.unusedVariables false
open Go.RowKit

def mdB (m n : Int) : Bool := inB n 2 1000 && inB m 1 (n - 1) && decide (n * n + m * m ≤ 1000)
def mdG (m n : Int) : Int := ((Int.gcd ((Int.gcd (n * n - m * m) (2 * m * n) : Nat) : Int) (n * n + m * m) : Nat) : Int)
@[irreducible] def mdC (m n : Int) : Int := if mdB m n then (n * n - m * m) / mdG m n else 0
@[irreducible] def mdS (m n : Int) (dn : Bool) : Int := if mdB m n then (if dn then 2 * m * n / mdG m n else -(2 * m * n / mdG m n)) else 0
@[irreducible] def mdH (m n : Int) : Int := if mdB m n then (n * n + m * m) / mdG m n else 0
@[irreducible] def mdE (m n : Int) : Int := if mdB m n then 0 else 2
theorem md_bad {m n : Int} {dn : Bool} (h : mdB m n = false) : mdC m n = 0 ∧ mdS m n dn = 0 ∧ mdH m n = 0 ∧ mdE m n = 2 := by
  unfold mdC mdS mdH mdE; simp [h]
theorem md_good {m n : Int} (h : mdB m n = true) : mdC m n = (n * n - m * m) / mdG m n ∧ mdS m n true = 2 * m * n / mdG m n ∧ mdS m n false = -(2 * m * n / mdG m n) ∧ mdH m n = (n * n + m * m) / mdG m n ∧ mdE m n = 0 := by
  unfold mdC mdS mdH mdE; simp [h]
structure MdOk (m n : Int) : Prop where
  n0 : 2 ≤ n
  n1 : n ≤ 31
  m0 : 1 ≤ m
  m1 : m ≤ n - 1
  nn : n * n ≤ 999
  nn0 : 4 ≤ n * n
  mm : m * m ≤ 900
  mm0 : 1 ≤ m * m
  mn0 : 2 ≤ m * n
  mn1 : m * n ≤ 930
  mn2 : 2 * m * n = 2 * (m * n)
  c0 : m * m < n * n
  hh : n * n + m * m ≤ 1000
  g0 : 1 ≤ mdG m n
  g1 : mdG m n ≤ n * n + m * m
theorem mdOk_of {m n : Int} (h : mdB m n = true) : MdOk m n := by
  simp only [mdB, Bool.and_eq_true, decide_eq_true_eq] at h
  obtain ⟨⟨h1, h2⟩, h3⟩ := h
  have a := inB_bd h1
  have b := inB_bd h2
  have m2 : 1 ≤ m * m := by have := Int.mul_le_mul b.1 b.1 (by omega) (by omega); omega
  have n2 : n ≤ 31 := by
    rcases Int.lt_or_le 31 n with q | q
    · have := Int.mul_le_mul (show (32 : Int) ≤ n by omega) (show (32 : Int) ≤ n by omega) (by omega) (by omega)
      omega
    · exact q
  have e1 := Int.mul_le_mul b.2 b.2 (show 0 ≤ m by omega) (by omega)
  have e2 : (n - 1) * (n - 1) = n * n - 2 * n + 1 := by rw [Int.sub_mul, Int.mul_sub]; omega
  have e3 := Int.mul_le_mul a.1 a.1 (by omega) (by omega)
  have e4 := Int.mul_le_mul (show m ≤ 30 by omega) (show m ≤ 30 by omega) (by omega) (by omega)
  have e5 := Int.mul_le_mul b.1 a.1 (by omega) (by omega)
  have e6 := Int.mul_le_mul (show m ≤ 30 by omega) n2 (by omega) (by omega)
  have hp : 0 < Int.gcd ((Int.gcd (n * n - m * m) (2 * m * n) : Nat) : Int) (n * n + m * m) := Int.gcd_pos_of_ne_zero_right _ (by omega)
  have hd : mdG m n ∣ n * n + m * m := Int.gcd_dvd_right _ _
  have hg : 1 ≤ mdG m n := by unfold mdG; omega
  exact ⟨a.1, n2, b.1, b.2, by omega, by omega, by omega, m2, by omega, by omega, Int.mul_assoc _ _ _, by omega, h3, hg, Int.le_of_dvd (by omega) hd⟩

set_option maxRecDepth 100000 in
set_option maxHeartbeats 4000000 in
theorem specMakeDir_any (m n : Int) (dn : Bool) (w : World) :
    Calls Tryz.prog 37 #[.int .i64 m, .int .i64 n, .bool dn] w fun e w' => e = .returned (.tuple #[dirV (mdC m n) (mdS m n dn) (mdH m n), .int .i64 (mdE m n)]) ∧ Below w.heap.size w w' := by
  by_cases h1 : inB n 2 1000 = true
  · have a := inB_bd h1
    by_cases h2 : inB m 1 (n - 1) = true
    · have b := inB_bd h2
      have e1 := Int.mul_le_mul a.2 a.2 (show 0 ≤ n by omega) (by omega)
      have e2 := Int.mul_nonneg (show 0 ≤ n by omega) (show 0 ≤ n by omega)
      have e3 := Int.mul_le_mul (show m ≤ 1000 by omega) (show m ≤ 1000 by omega) (show 0 ≤ m by omega) (by omega)
      have e4 := Int.mul_nonneg (show 0 ≤ m by omega) (show 0 ≤ m by omega)
      by_cases h3 : n * n + m * m ≤ 1000
      · have hb : mdB m n = true := by simp [mdB, h1, h2, h3]
        obtain ⟨g1, g2, g3, g4, g5⟩ := md_good hb
        obtain ⟨k1, k2, k3, k4, k5, k6, k7, k8, k9, k10, k11, k12, k13, k14, k15⟩ := mdOk_of hb
        have G1 := Lib.hid g1; have G2 := Lib.hid g2; have G3 := Lib.hid g3; have G4 := Lib.hid g4; have G5 := Lib.hid g5
        have K11 := Lib.hid k11
        obtain ⟨mn, hmn⟩ : ∃ mn, m * n = mn := ⟨_, rfl⟩
        clear g1 g2 g3 g4 g5 hb
        have s1 : 0 ≤ 2 * m * n := by omega
        have s2 : 2 * m * n ≤ 1860 := by omega
        clear hmn k11
        go_enter Tryz.func37, Tryz.ntmps37
        go_upto_region 4 with (go_at_call 53; refine (l01In_any _ _ _ _).mono ?_; rintro e w' ⟨rfl, rfl⟩)
        have hG0 : mdG m n = ((Int.gcd ((Int.gcd (n * n - m * m) (2 * m * n) : Nat) : Int) (n * n + m * m) : Nat) : Int) := rfl
        have d0 : 0 < n * n - m * m := by omega
        have d1 : n * n - m * m ≤ 1000 := by omega
        have d2 : 0 < n * n + m * m := by omega
        generalize n * n - m * m = C at *
        generalize 2 * m * n = Sx at *
        generalize n * n + m * m = Hh at *
        generalize mdG m n = G at *
        have hd : ((Int.gcd C Sx : Nat) : Int) ∣ C := Int.gcd_dvd_left C Sx
        have hd2 := Int.le_of_dvd (by omega) hd
        have hd3 : (0 : Int) ≤ ((Int.gcd C Sx : Nat) : Int) := Int.natCast_nonneg _
        clear hd
        have v1_ : 0 ≤ C / G ∧ C / G ≤ C := ⟨Int.ediv_nonneg (by omega) (by omega), Int.ediv_le_self _ (by omega)⟩
        have v2_ : 0 ≤ Sx / G ∧ Sx / G ≤ Sx := ⟨Int.ediv_nonneg (by omega) (by omega), Int.ediv_le_self _ (by omega)⟩
        have v3_ : 0 ≤ Hh / G ∧ Hh / G ≤ Hh := ⟨Int.ediv_nonneg (by omega) (by omega), Int.ediv_le_self _ (by omega)⟩
        obtain ⟨C', hC'⟩ : ∃ x, C / G = x := ⟨_, rfl⟩
        obtain ⟨S', hS'⟩ : ∃ x, Sx / G = x := ⟨_, rfl⟩
        obtain ⟨H', hH'⟩ : ∃ x, Hh / G = x := ⟨_, rfl⟩
        have T1 : C.tdiv G = C' := by rw [Int.tdiv_eq_ediv_of_nonneg (by omega)]; exact hC'
        have T2 : Sx.tdiv G = S' := by rw [Int.tdiv_eq_ediv_of_nonneg (by omega)]; exact hS'
        have T3 : Hh.tdiv G = H' := by rw [Int.tdiv_eq_ediv_of_nonneg (by omega)]; exact hH'
        rw [hC'] at v1_
        rw [hS'] at v2_
        rw [hH'] at v3_
        have HG := Lib.hid hG0; have HC' := Lib.hid hC'; have HS' := Lib.hid hS'; have HH' := Lib.hid hH'; have HT := Lib.hid (And.intro T1 (And.intro T2 T3))
        clear hG0 hC' hS' hH' T1 T2 T3
        go_wp2_with fail
        (refine (l01Divisor_any _ _ _ (by omega) (by omega) (by omega) (by omega)).mono ?_; rintro e w1 ⟨rfl, hb1⟩; obtain ⟨B1, hz1, q1, s1, t1, x1, y1, z1⟩ := bkeep (w := w) [w.heap.size] (by first | (simp; done) | (simp; omega)) (by first | (go_grown; done) | exact bdrewN (by go_grown) _) hb1; (try simp at hz1); clear hb1)
        go_wp2_with fail
        (refine (l01Divisor_any _ _ _ (by omega) (by omega) (by omega) (by omega)).mono ?_; rintro e w2 ⟨rfl, hb2⟩; obtain ⟨B2, hz2, q2, s2, t2, x2, y2, z2⟩ := bkeep (w := w) [w.heap.size] (by first | (simp; done) | (simp; omega)) (by first | (go_grown; done) | exact bdrewN (by go_grown) _) hb2; (try simp at hz2); clear hb2)
        rw [← HG.out]
        go_wp2_with fail
        obtain ⟨t1, t2, t3⟩ := HT.out
        have gnz : ¬ G = 0 := by omega
        refine genS (S := fun w' => Below w.heap.size w w' ∧ w.heap.size < w'.heap.size ∧ w'.cell? ⟨w.heap.size, 0, none⟩ = some (.int .i64 0) ∧ w'.cell? ⟨w.heap.size, 1, none⟩ = some (.int .i64 0) ∧ w'.cell? ⟨w.heap.size, 2, none⟩ = some (.int .i64 0) ∧ (∀ o, w'.frozen? ⟨w.heap.size, o, none⟩ = false)) ⟨(by first | with_reducible exact B2 | (go_grown; done) | with_reducible exact bdrewN B2 _ | (go_grown <;> first | with_reducible exact bdrewN B2 _ | with_reducible exact B2)), by first | omega | (simp; done) | (simp; omega), by simp [*, go_sem], by simp [*, go_sem], by simp [*, go_sem], fun o => by simp [*, go_sem]⟩ ?_
        rintro w3 ⟨B3, lt3, r0, r1, r2, fR⟩
        have u1 : 0 ≤ C' := v1_.1
        have u2 : C' ≤ 1000 := by omega
        have u3 : 0 ≤ S' := v2_.1
        have u4 : S' ≤ 2000 := by omega
        have u5 : 0 ≤ H' := v3_.1
        have u6 : H' ≤ 1000 := by omega
        clear v1_ v2_ v3_ e1 e2 e3 e4 k5 k6 k7 k8 k9 k10 k12 k13 s1 s2 hd2 hd3 h3 h1 h2
        go_region_held3 (fun w' => w'.cell? ⟨w.heap.size, 0, none⟩ = some (.int .i64 0) ∧ w'.cell? ⟨w.heap.size, 1, none⟩ = some (.int .i64 0) ∧ w'.cell? ⟨w.heap.size, 2, none⟩ = some (.int .i64 0)) (first | (go_keep; done) | (simp [*, go_sem]; done))
          (fail)
        have ne1 : w.heap.size ≠ w3.heap.size := by omega
        have ne2 : w3.heap.size ≠ w.heap.size := by omega
        cases dn with
        | true =>
          go_wp2
          refine bodyPost_ret (by simp [results, Tryz.results37, go_sem, *] <;> rfl) rfl ?_
          exact ⟨by rw [G1.out, G2.out, G4.out, G5.out, HC'.out, HS'.out, HH'.out], (by first | with_reducible exact B3 | (go_grown; done) | with_reducible exact bdrewN B3 _ | (go_grown <;> first | with_reducible exact bdrewN B3 _ | with_reducible exact B3))⟩
        | false =>
          go_wp2
          refine bodyPost_ret (by simp [results, Tryz.results37, go_sem, *] <;> rfl) rfl ?_
          exact ⟨by rw [G1.out, G3.out, G4.out, G5.out, HC'.out, HS'.out, HH'.out], (by first | with_reducible exact B3 | (go_grown; done) | with_reducible exact bdrewN B3 _ | (go_grown <;> first | with_reducible exact bdrewN B3 _ | with_reducible exact B3))⟩
      · have hb : mdB m n = false := by simp [mdB, h3]
        obtain ⟨g1, g2, g3, g4⟩ := md_bad (dn := dn) hb
        go_enter Tryz.func37, Tryz.ntmps37
        go_wp2_with (go_at_call 53; refine (l01In_any _ _ _ _).mono ?_; rintro e w' ⟨rfl, rfl⟩)
        refine bodyPost_ret (by simp [results, Tryz.results37, go_sem, *] <;> rfl) rfl ?_
        exact ⟨by rw [g1, g2, g3, g4], by go_grown⟩
    · have hb : mdB m n = false := by simp [mdB, h2]
      obtain ⟨g1, g2, g3, g4⟩ := md_bad (dn := dn) hb
      go_enter Tryz.func37, Tryz.ntmps37
      go_wp2_with (go_at_call 53; refine (l01In_any _ _ _ _).mono ?_; rintro e w' ⟨rfl, rfl⟩)
      refine bodyPost_ret (by simp [results, Tryz.results37, go_sem, *] <;> rfl) rfl ?_
      exact ⟨by rw [g1, g2, g3, g4], by go_grown⟩
  · have hb : mdB m n = false := by simp [mdB, h1]
    obtain ⟨g1, g2, g3, g4⟩ := md_bad (dn := dn) hb
    go_enter Tryz.func37, Tryz.ntmps37
    go_wp2_with (go_at_call 53; refine (l01In_any _ _ _ _).mono ?_; rintro e w' ⟨rfl, rfl⟩)
    refine bodyPost_ret (by simp [results, Tryz.results37, go_sem, *] <;> rfl) rfl ?_
    exact ⟨by rw [g1, g2, g3, g4], by go_grown⟩
end

section
set_option linter.unusedSimpArgs false
set_option linter.unusedVariables false
open Go.RowKit

theorem makeDirW_any (m n : Int) (dn : Bool) (w : World) :
    Calls Tryz.prog 37 #[.int .i64 m, .int .i64 n, .bool dn] w fun e w' => (∃ a b g k, e = .returned (.tuple #[dirV a b g, .int .i64 k])) ∧ Below w.heap.size w w' :=
  (specMakeDir_any m n dn w).mono fun e w' ⟨he, hb⟩ => ⟨⟨_, _, _, _, he⟩, hb⟩
end

section
set_option linter.unusedSimpArgs false
set_option linter.unusedVariables false
open Go.RowKit

end

section
set_option linter.unusedSimpArgs false
set_option linter.unusedVariables false
open Go.RowKit

end

section
set_option linter.unusedSimpArgs false
set_option linter.unusedVariables false
open Go.RowKit

end

section
set_option linter.unusedSimpArgs false
set_option linter.unusedVariables false
open Go.RowKit

set_option maxRecDepth 100000 in
set_option maxHeartbeats 8000000 in
theorem l08DrawFan_any (S : Nat) (A : Option Addr) (c : Nat) (xs : List Int) (w : World) (h : SrcAt w S A c xs) :
    Calls Tryz.prog 34 #[.pointer (some ⟨S, 0, none⟩)] w fun e w' => (∃ a b z : Int, e = .returned (.tuple #[.int .i64 a, .int .i64 b, .int .i64 z])) ∧ SrcAt w' S A c xs ∧ ChgB S (S + 1) w w' := by
  have ltS := h.lt
  have SS := Lib.hid h; have CC := Lib.hid (ChgB.refl S (S + 1) w); clear h
  go_enter Tryz.func34, Tryz.ntmps34
  go_wp2_with fail
  refine (l01Next_any S A c xs _ _ (SS.out.keepS (by repeat' (first | with_reducible exact Keep.refl _ _ _ | with_reducible refine Keep.setB ?_ ?_ _ | with_reducible refine Keep.alloc ?_ ?_ _ | with_reducible refine Keep.drew ?_ | omega | (simp; done) | (simp; omega))))).mono ?_; rintro e w2 ⟨⟨n2, rfl, n20, n21⟩, s2', ch2⟩; have CC := Lib.hid ((show ChgB S (S + 1) w _ from (by repeat' (first | with_reducible exact CC.out | with_reducible exact ChgB.refl _ _ _ | with_reducible refine ChgB.setB ?_ ?_ _ | with_reducible refine ChgB.alloc ?_ _ | with_reducible refine ChgB.drew ?_ | with_reducible refine ChgB.drewN ?_ _ | omega | (simp; done) | (simp; omega)))).trans ch2.toB); have SS := Lib.hid s2'; obtain ⟨z2, q2, f2, x2, y2⟩ := ckeepB [] (by first | (simp; done) | (simp; omega)) ch2.toB; (try simp only [World.size_alloc, World.size_drew, size_set] at z2); clear s2' ch2
  go_wp2_with fail
  refine (l01Next_any S A c xs _ _ (SS.out.keepS (by repeat' (first | with_reducible exact Keep.refl _ _ _ | with_reducible refine Keep.setB ?_ ?_ _ | with_reducible refine Keep.alloc ?_ ?_ _ | with_reducible refine Keep.drew ?_ | omega | (simp; done) | (simp; omega))))).mono ?_; rintro e w3 ⟨⟨n3, rfl, n30, n31⟩, s3', ch3⟩; have CC := Lib.hid ((show ChgB S (S + 1) w _ from (by repeat' (first | with_reducible exact CC.out | with_reducible exact ChgB.refl _ _ _ | with_reducible refine ChgB.setB ?_ ?_ _ | with_reducible refine ChgB.alloc ?_ _ | with_reducible refine ChgB.drew ?_ | with_reducible refine ChgB.drewN ?_ _ | omega | (simp; done) | (simp; omega)))).trans ch3.toB); have SS := Lib.hid s3'; obtain ⟨z3, q3, f3, x3, y3⟩ := ckeepB [] (by first | (simp; done) | (simp; omega)) ch3.toB; (try simp only [World.size_alloc, World.size_drew, size_set] at z3); clear s3' ch3
  go_wp2_with fail
  refine (l01Next_any S A c xs _ _ (SS.out.keepS (by repeat' (first | with_reducible exact Keep.refl _ _ _ | with_reducible refine Keep.setB ?_ ?_ _ | with_reducible refine Keep.alloc ?_ ?_ _ | with_reducible refine Keep.drew ?_ | omega | (simp; done) | (simp; omega))))).mono ?_; rintro e w4 ⟨⟨n4, rfl, n40, n41⟩, s4', ch4⟩; have CC := Lib.hid ((show ChgB S (S + 1) w _ from (by repeat' (first | with_reducible exact CC.out | with_reducible exact ChgB.refl _ _ _ | with_reducible refine ChgB.setB ?_ ?_ _ | with_reducible refine ChgB.alloc ?_ _ | with_reducible refine ChgB.drew ?_ | with_reducible refine ChgB.drewN ?_ _ | omega | (simp; done) | (simp; omega)))).trans ch4.toB); have SS := Lib.hid s4'; obtain ⟨z4, q4, f4, x4, y4⟩ := ckeepB [] (by first | (simp; done) | (simp; omega)) ch4.toB; (try simp only [World.size_alloc, World.size_drew, size_set] at z4); clear s4' ch4
  go_wp2_with fail
  refine (l01Next_any S A c xs _ _ (SS.out.keepS (by repeat' (first | with_reducible exact Keep.refl _ _ _ | with_reducible refine Keep.setB ?_ ?_ _ | with_reducible refine Keep.alloc ?_ ?_ _ | with_reducible refine Keep.drew ?_ | omega | (simp; done) | (simp; omega))))).mono ?_; rintro e w5 ⟨⟨n5, rfl, n50, n51⟩, s5', ch5⟩; have CC := Lib.hid ((show ChgB S (S + 1) w _ from (by repeat' (first | with_reducible exact CC.out | with_reducible exact ChgB.refl _ _ _ | with_reducible refine ChgB.setB ?_ ?_ _ | with_reducible refine ChgB.alloc ?_ _ | with_reducible refine ChgB.drew ?_ | with_reducible refine ChgB.drewN ?_ _ | omega | (simp; done) | (simp; omega)))).trans ch5.toB); have SS := Lib.hid s5'; obtain ⟨z5, q5, f5, x5, y5⟩ := ckeepB [] (by first | (simp; done) | (simp; omega)) ch5.toB; (try simp only [World.size_alloc, World.size_drew, size_set] at z5); clear s5' ch5
  by_cases hn : n5 = 0
  · subst hn
    go_wp2_with fail
    refine (l01Pick_any S A c xs _ 0 _ [0, 1 + n3 + n4 + 1] _ (SS.out.keepS (by repeat' (first | with_reducible exact Keep.refl _ _ _ | with_reducible refine Keep.setB ?_ ?_ _ | with_reducible refine Keep.alloc ?_ ?_ _ | with_reducible refine Keep.drew ?_ | omega | (simp; done) | (simp; omega)))) ⟨by simp, by simp, .inr ⟨_, 0, rfl, by first | omega | (simp; done) | (simp; omega), fun i x hx => by rcases i with _ | _ | _ | _ | i <;> simp at hx <;> subst hx <;> simp [*, go_sem]⟩⟩ (by simp) (by first | omega | (simp; omega))).mono ?_; rintro e w6 ⟨⟨n6, rfl, nm6⟩, s6', ch6⟩; have CC := Lib.hid ((show ChgB S (S + 1) w _ from (by repeat' (first | with_reducible exact CC.out | with_reducible exact ChgB.refl _ _ _ | with_reducible refine ChgB.setB ?_ ?_ _ | with_reducible refine ChgB.alloc ?_ _ | with_reducible refine ChgB.drew ?_ | with_reducible refine ChgB.drewN ?_ _ | omega | (simp; done) | (simp; omega)))).trans ch6.toB); have SS := Lib.hid s6'; obtain ⟨z6, q6, f6, x6, y6⟩ := ckeepB [] (by first | (simp; done) | (simp; omega)) ch6.toB; (try simp only [World.size_alloc, World.size_drew, size_set] at z6); clear s6' ch6; clear nm6
    go_wp2
    all_goals refine bodyPost_ret (by simp [results, Tryz.results34, go_sem, *] <;> rfl) rfl ?_
    all_goals exact ⟨⟨_, _, _, rfl⟩, SS.out.keepS (by repeat' (first | with_reducible exact Keep.refl _ _ _ | with_reducible refine Keep.setB ?_ ?_ _ | with_reducible refine Keep.alloc ?_ ?_ _ | with_reducible refine Keep.drew ?_ | omega | (simp; done) | (simp; omega))), (by repeat' (first | with_reducible exact CC.out | with_reducible exact ChgB.refl _ _ _ | with_reducible refine ChgB.setB ?_ ?_ _ | with_reducible refine ChgB.alloc ?_ _ | with_reducible refine ChgB.drew ?_ | with_reducible refine ChgB.drewN ?_ _ | omega | (simp; done) | (simp; omega)))⟩
  · have hn2 : (n5 == 0) = false := beq_eq_false_iff_ne.2 hn
    by_cases hm : n5 = 1
    · subst hm
      go_wp2_with fail
      refine (l01Pick_any S A c xs _ 0 _ [31, 32, 1 + n3 + n4] _ (SS.out.keepS (by repeat' (first | with_reducible exact Keep.refl _ _ _ | with_reducible refine Keep.setB ?_ ?_ _ | with_reducible refine Keep.alloc ?_ ?_ _ | with_reducible refine Keep.drew ?_ | omega | (simp; done) | (simp; omega)))) ⟨by simp, by simp, .inr ⟨_, 0, rfl, by first | omega | (simp; done) | (simp; omega), fun i x hx => by rcases i with _ | _ | _ | _ | i <;> simp at hx <;> subst hx <;> simp [*, go_sem]⟩⟩ (by simp) (by first | omega | (simp; omega))).mono ?_; rintro e w6 ⟨⟨n6, rfl, nm6⟩, s6', ch6⟩; have CC := Lib.hid ((show ChgB S (S + 1) w _ from (by repeat' (first | with_reducible exact CC.out | with_reducible exact ChgB.refl _ _ _ | with_reducible refine ChgB.setB ?_ ?_ _ | with_reducible refine ChgB.alloc ?_ _ | with_reducible refine ChgB.drew ?_ | with_reducible refine ChgB.drewN ?_ _ | omega | (simp; done) | (simp; omega)))).trans ch6.toB); have SS := Lib.hid s6'; obtain ⟨z6, q6, f6, x6, y6⟩ := ckeepB [] (by first | (simp; done) | (simp; omega)) ch6.toB; (try simp only [World.size_alloc, World.size_drew, size_set] at z6); clear s6' ch6; clear nm6
      go_wp2
      all_goals refine bodyPost_ret (by simp [results, Tryz.results34, go_sem, *] <;> rfl) rfl ?_
      all_goals exact ⟨⟨_, _, _, rfl⟩, SS.out.keepS (by repeat' (first | with_reducible exact Keep.refl _ _ _ | with_reducible refine Keep.setB ?_ ?_ _ | with_reducible refine Keep.alloc ?_ ?_ _ | with_reducible refine Keep.drew ?_ | omega | (simp; done) | (simp; omega))), (by repeat' (first | with_reducible exact CC.out | with_reducible exact ChgB.refl _ _ _ | with_reducible refine ChgB.setB ?_ ?_ _ | with_reducible refine ChgB.alloc ?_ _ | with_reducible refine ChgB.drew ?_ | with_reducible refine ChgB.drewN ?_ _ | omega | (simp; done) | (simp; omega)))⟩
    · have hn3 : (n5 == 1) = false := beq_eq_false_iff_ne.2 hm
      go_wp2
      all_goals refine bodyPost_ret (by simp [results, Tryz.results34, go_sem, *] <;> rfl) rfl ?_
      all_goals exact ⟨⟨_, _, _, rfl⟩, SS.out.keepS (by repeat' (first | with_reducible exact Keep.refl _ _ _ | with_reducible refine Keep.setB ?_ ?_ _ | with_reducible refine Keep.alloc ?_ ?_ _ | with_reducible refine Keep.drew ?_ | omega | (simp; done) | (simp; omega))), (by repeat' (first | with_reducible exact CC.out | with_reducible exact ChgB.refl _ _ _ | with_reducible refine ChgB.setB ?_ ?_ _ | with_reducible refine ChgB.alloc ?_ _ | with_reducible refine ChgB.drew ?_ | with_reducible refine ChgB.drewN ?_ _ | omega | (simp; done) | (simp; omega)))⟩
end
end Go.Proofs.YtopggkomkfjbfaaGreat
