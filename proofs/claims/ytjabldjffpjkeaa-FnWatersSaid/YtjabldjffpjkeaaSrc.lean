/- Draws: numbers that follow from a code. What is said of them: they lie in their bounds, and nothing but the source has changed. -/
import Derived.Test.YtjabldjffpjkeaaOwnK
import Derived.Test.YtjabldjffpjkeaaSpd
import Derived.BigRegion
import Derived.Deep.RegionHeld3
import Derived.IntWalk
namespace Go.Proofs.Ytjabldjffpjkeaa
set_option linter.unusedSimpArgs false
set_option linter.unusedVariables false
open Go.RowKit

/-- the slice (A, c) reads as these bytes -/
def BytesAt (w : World) (A : Option Addr) (c : Nat) (xs : List Int) : Prop :=
  xs.length ≤ c ∧ c ≤ 9223372036854775807 ∧ (xs = [] ∨ ∃ b off, A = some ⟨b, off, none⟩ ∧ b < w.heap.size ∧ ∀ i x, xs[i]? = some x → w.cell? ⟨b, off + i, none⟩ = some (.int .u8 x) ∧ 0 ≤ x ∧ x ≤ 255)
section
variable {w w1 : World} {A : Option Addr} {c S B lo hi : Nat} {xs : List Int}
theorem BytesAt.at_ {k : Nat} (h : BytesAt w A c xs) (hk : k < xs.length) : ∃ b off x, A = some ⟨b, off, none⟩ ∧ b < w.heap.size ∧ xs[k]? = some x ∧ w.cell? ⟨b, off + k, none⟩ = some (.int .u8 x) ∧ 0 ≤ x ∧ x ≤ 255 := by
  rcases h.2.2 with e | ⟨b, off, e, hb, hc⟩
  · rw [e] at hk; simp at hk
  · have hx := List.getElem?_eq_getElem hk
    obtain ⟨h1, h2, h3⟩ := hc k _ hx
    exact ⟨b, off, _, e, hb, hx, h1, h2, h3⟩
theorem BytesAt.below (h : BytesAt w A c xs) (hb : Below B w w1) (hB : w.heap.size ≤ B) : BytesAt w1 A c xs := by
  refine ⟨h.1, h.2.1, ?_⟩
  rcases h.2.2 with e | ⟨b, off, e, hl, hc⟩
  · exact .inl e
  · have := hb.size
    exact .inr ⟨b, off, e, by omega, fun i x hx => ⟨(hb.cell (p := ⟨b, off + i, none⟩) (by show b < B; omega)).trans (hc i x hx).1, (hc i x hx).2⟩⟩
theorem BytesAt.blocks (h : BytesAt w A c xs) (hs : w.heap.size ≤ w1.heap.size) (hb : xs ≠ [] → ∀ b off, A = some ⟨b, off, none⟩ → w1.heap[b]? = w.heap[b]?) : BytesAt w1 A c xs := by
  refine ⟨h.1, h.2.1, ?_⟩
  rcases h.2.2 with e | ⟨b, off, e, hl, hc⟩
  · exact .inl e
  · by_cases hx : xs = []
    · exact .inl hx
    · exact .inr ⟨b, off, e, by omega, fun i x hi => ⟨(World.cell?_of_block (w := w) (hb hx b off e)).trans (hc i x hi).1, (hc i x hi).2⟩⟩

/-- a source of numbers in block S, over these bytes -/
structure SrcAt (w : World) (S : Nat) (A : Option Addr) (c : Nat) (xs : List Int) : Prop where
  lt : S < w.heap.size
  fr : ∀ o, w.frozen? ⟨S, o, none⟩ = false
  code : w.cell? ⟨S, 0, none⟩ = some (.slice A xs.length c)
  at_ : ∃ k : Nat, k ≤ xs.length ∧ w.cell? ⟨S, 1, none⟩ = some (.int .i64 k)
  seed : ∃ z : Int, 0 ≤ z ∧ z < 2147483647 ∧ w.cell? ⟨S, 2, none⟩ = some (.int .i64 z)
  bytes : BytesAt w A c xs
  low : xs ≠ [] → ∀ b off, A = some ⟨b, off, none⟩ → b < S
theorem SrcAt.of_block (h : SrcAt w S A c xs) (hs : w.heap.size ≤ w1.heap.size) (hb : w1.heap[S]? = w.heap[S]?) (hl : ∀ b, b < S → w1.heap[b]? = w.heap[b]?) : SrcAt w1 S A c xs := by
  have hc : ∀ o, w1.cell? ⟨S, o, none⟩ = w.cell? ⟨S, o, none⟩ := fun o => World.cell?_of_block (w := w) hb
  refine ⟨Nat.lt_of_lt_of_le h.lt hs, fun o => (World.frozen?_of_block (w := w) hb).trans (h.fr o), (hc 0).trans h.code, ?_, ?_, h.bytes.blocks hs (fun hx b off e => hl b (h.low hx b off e)), h.low⟩
  · obtain ⟨k, h1, h2⟩ := h.at_
    exact ⟨k, h1, (hc 1).trans h2⟩
  · obtain ⟨z, h1, h2, h3⟩ := h.seed
    exact ⟨z, h1, h2, (hc 2).trans h3⟩
theorem SrcAt.below (h : SrcAt w S A c xs) (hb : Below B w w1) (hB : S < B) : SrcAt w1 S A c xs := h.of_block hb.size (hb.block S hB) (fun b hl => hb.block b (by omega))
theorem SrcAt.chgB (h : SrcAt w S A c xs) (hb : ChgB lo hi w w1) (hB : S < lo) : SrcAt w1 S A c xs := h.of_block hb.size (hb.block S h.lt (by omega)) (fun b hl => hb.block b (by have := h.lt; omega) (by omega))
theorem Chg.drewN (h : Chg lo hi w w1) (n : Nat) : Chg lo hi w (w1.drewN n) := ⟨h.os, h.tape, h.output, by simpa using h.size, h.block⟩
theorem Chg.drew (h : Chg lo hi w w1) : Chg lo hi w w1.drew := ⟨h.os, h.tape, h.output, by simpa using h.size, h.block⟩
/-- what a draw leaves: only the source has changed -/
theorem SrcAt.mk_chg (h : SrcAt w S A c xs) (hc : Chg S (S + 1) w w1) (hf : ∀ o, w1.frozen? ⟨S, o, none⟩ = false) (h0 : w1.cell? ⟨S, 0, none⟩ = some (.slice A xs.length c)) {k : Nat} (hk : k ≤ xs.length) (h1 : w1.cell? ⟨S, 1, none⟩ = some (.int .i64 k))
    {z : Int} (z0 : 0 ≤ z) (z1 : z < 2147483647) (h2 : w1.cell? ⟨S, 2, none⟩ = some (.int .i64 z)) : SrcAt w1 S A c xs :=
  ⟨by rw [hc.size]; exact h.lt, hf, h0, ⟨k, hk, h1⟩, ⟨z, z0, z1, h2⟩, h.bytes.blocks (by rw [hc.size]; exact Nat.le_refl _) (fun hx b off e => hc.block b (.inl (h.low hx b off e))), h.low⟩
end

set_option maxHeartbeats 4000000 in
theorem l01Next_any (S : Nat) (A : Option Addr) (c : Nat) (xs : List Int) (n : Int) (w : World) (h : SrcAt w S A c xs) :
    Calls Try.prog 44 #[.pointer (some ⟨S, 0, none⟩), .int .i64 n] w fun e w' => (∃ x : Int, e = .returned (.int .i64 x) ∧ 0 ≤ x ∧ (x < n ∨ x = 0)) ∧ SrcAt w' S A c xs ∧ Chg S (S + 1) w w' := by
  by_cases hn : n ≤ 1
  · have H := Lib.hid h; clear h
    go_enter Try.func44, Try.ntmps44
    go_wp2_with fail
    go_ret
    exact ⟨⟨0, rfl, by omega, .inr rfl⟩, H.out, Chg.refl _ _ _⟩
  · obtain ⟨k, hk, c1⟩ := h.at_
    obtain ⟨z, z0, z1, c2⟩ := h.seed
    have c0 := h.code; have lt := h.lt; have fr := h.fr
    have hlen := h.bytes.1; have hc63 := h.bytes.2.1
    have W1 : IntKind.i64.wrap (z * 48271) = z * 48271 := IntWalk.i64_in _ (by omega)
    have W2 : IntKind.i64.wrap (z * 48271 + 41) = z * 48271 + 41 := IntWalk.i64_in _ (by omega)
    have m0 : 0 ≤ (z * 48271 + 41).tmod 2147483647 := Int.tmod_nonneg _ (by omega)
    have m1 : (z * 48271 + 41).tmod 2147483647 < 2147483647 := Int.tmod_lt_of_pos _ (by omega)
    obtain ⟨s, hs⟩ : ∃ s, (z * 48271 + 41).tmod 2147483647 = s := ⟨_, rfl⟩
    rw [hs] at m0 m1
    have d0 : 0 ≤ s.tdiv 29 := Int.tdiv_nonneg m0 (by omega)
    have d1 : s.tdiv 29 ≤ s := Int.tdiv_le_self _ m0
    obtain ⟨x1, hx1⟩ : ∃ x1, s.tdiv 29 = x1 := ⟨_, rfl⟩
    rw [hx1] at d0 d1
    have hnz : ¬ n = 0 := by omega
    have H := Lib.hid h; clear h
    by_cases hat : (k : Int) < xs.length
    · obtain ⟨b, off, y, hA, hb, hy, cy, y0, y1⟩ := H.out.bytes.at_ (k := k) (by omega)
      have hbS := H.out.low (by intro e; rw [e] at hat; simp at hat; omega) b off hA
      subst hA
      have kk0 : (0 : Int) ≤ k := by omega
      have nb1 : b ≠ S := by omega
      have nb2 : S ≠ b := by omega
      have W3 : IntKind.i64.wrap (x1 + y) = x1 + y := IntWalk.i64_in _ (by omega)
      have W4 : IntKind.i64.wrap ((k : Int) + 1) = (k : Int) + 1 := IntWalk.i64_in _ (by omega)
      have W5 : IntKind.i64.wrap y = y := IntWalk.i64_in _ (by omega)
      have hy' := Lib.hid hy; clear hy
      by_cases h256 : n ≤ 256
      · have W6 : IntKind.i64.wrap ((k : Int) + 1 - 1) = (k : Int) := by rw [show (k : Int) + 1 - 1 = k by omega]; exact IntWalk.i64_in _ (by omega)
        go_enter Try.func44, Try.ntmps44
        go_wp2_with fail
        go_quiet (fail)
        go_wp2_with fail
        go_quiet (fail)
        go_wp2_with fail
        all_goals (try (go_quiet (fail); go_wp2_with fail))
        all_goals go_ret
        all_goals refine ⟨⟨_, rfl, Int.emod_nonneg _ hnz, .inl (Int.emod_lt_of_pos _ (by omega))⟩, H.out.mk_chg (k := k + 1) (z := s) ?_ (fun o => by simp [*, go_sem]) (by simp [*, go_sem]) (by omega) (by simp [*, go_sem]) m0 m1 (by simp [*, go_sem]), ?_⟩
        all_goals exact (by repeat' (first | exact Chg.refl _ _ _ | refine Chg.drewN ?_ _ | refine Chg.set ?_ ?_ ?_ _ | exact Nat.le_refl _ | exact Nat.lt_succ_self _))
      · go_enter Try.func44, Try.ntmps44
        go_wp2_with fail
        go_quiet (fail)
        go_wp2_with fail
        go_quiet (fail)
        go_wp2_with fail
        go_ret
        refine ⟨⟨_, rfl, Int.emod_nonneg _ hnz, .inl (Int.emod_lt_of_pos _ (by omega))⟩, H.out.mk_chg (k := k + 1) (z := s) ?_ (fun o => by simp [*, go_sem]) (by simp [*, go_sem]) (by omega) (by simp [*, go_sem]) m0 m1 (by simp [*, go_sem]), ?_⟩
        all_goals exact (by repeat' (first | exact Chg.refl _ _ _ | refine Chg.drewN ?_ _ | refine Chg.set ?_ ?_ ?_ _ | exact Nat.le_refl _ | exact Nat.lt_succ_self _))
    · have hf : ¬ ((k : Int) < xs.length) := hat
      go_enter Try.func44, Try.ntmps44
      go_wp2_with fail
      go_quiet (fail)
      go_wp2_with fail
      go_ret
      have CH : Chg S (S + 1) w ((w.setCell ⟨S, 2, none⟩ (.int .i64 s)).drewN nq) := ((Chg.refl _ _ _).set (a := ⟨S, 2, none⟩) (Nat.le_refl _) (Nat.lt_succ_self _) _).drewN _
      exact ⟨⟨_, rfl, Int.emod_nonneg _ hnz, .inl (Int.emod_lt_of_pos _ (by omega))⟩, H.out.mk_chg CH (fun o => by simp [*, go_sem]) (by simp [*, go_sem]) hk (by simp [*, go_sem]) m0 m1 (by simp [*, go_sem]), CH⟩
set_option maxHeartbeats 1000000 in
theorem l01Pick_any (S : Nat) (A : Option Addr) (c : Nat) (xs : List Int) (b off cb : Nat) (ys : List Int) (w : World) (h : SrcAt w S A c xs) (hy : IntsAt w (some ⟨b, off, none⟩) cb ys) (h0 : 0 < ys.length) (hb : b ≠ S) :
    Calls Try.prog 55 #[.pointer (some ⟨S, 0, none⟩), .slice (some ⟨b, off, none⟩) ys.length cb] w fun e w' => (∃ x : Int, e = .returned (.int .i64 x) ∧ x ∈ ys) ∧ SrcAt w' S A c xs ∧ Chg S (S + 1) w w' := by
  obtain ⟨b', o', e', hbl, hc⟩ := hy.spd h0
  simp only [Option.some.injEq, Addr.mk.injEq, and_true] at e'
  obtain ⟨rfl, rfl⟩ := e'
  have hn := Nat.le_trans hy.1 hy.2.1
  have H := Lib.hid h; have HC := Lib.hid hc; clear h hc hy
  go_enter Try.func55, Try.ntmps55
  go_wp2_with fail
  refine (l01Next_any S A c xs _ _ H.out).mono ?_
  rintro e w1 ⟨⟨x, rfl, x0, x1⟩, s1, ch⟩
  obtain ⟨i, rfl⟩ := Int.eq_ofNat_of_zero_le x0
  have hi : i < ys.length := by omega
  have cy := (ch.old (b := b) (by omega) (off + i)).trans (HC.out i hi)
  have i1 : (i : Int) < ys.length := by omega
  have hm := Lib.hid (List.mem_of_getElem? (spd_get hi))
  have HS := Lib.hid s1; have HCH := Lib.hid ch; clear s1 ch
  go_wp2
  go_ret
  exact ⟨⟨_, rfl, hm.out⟩, HS.out, HCH.out⟩
set_option maxHeartbeats 2000000 in
theorem l01From_any (A : Option Addr) (c : Nat) (xs : List Int) (w : World) (h : BytesAt w A c xs) :
    Calls Try.prog 32 #[.slice A xs.length c] w fun e w' => e = .returned (.pointer (some ⟨w.heap.size, 0, none⟩)) ∧ SrcAt w' w.heap.size A c xs ∧ Below w.heap.size w w' := by
  have H := Lib.hid h
  have hn := Nat.le_trans h.1 h.2.1
  clear h
  go_enter Try.func32, Try.ntmps32
  go_wp2
  go_loopw [4] (fun i wr => ∃ (k : Nat) (z : Int), k ≤ xs.length ∧ k ≤ 64 ∧ i = .int .i64 k ∧ 0 ≤ z ∧ z < 2147483647 ∧ Below w.heap.size w wr ∧ w.heap.size < wr.heap.size ∧ wr.cell? ⟨w.heap.size, 0, none⟩ = some (.slice A xs.length c) ∧ wr.cell? ⟨w.heap.size, 1, none⟩ = some (.int .i64 0) ∧ wr.cell? ⟨w.heap.size, 2, none⟩ = some (.int .i64 z) ∧ (∀ o, wr.frozen? ⟨w.heap.size, o, none⟩ = false)) (fun i _ => 64 - (intOf i).toNat)
  case atStart => exact ⟨0, 80051, by omega, by omega, rfl, by omega, by omega, by go_grown, by simp, by simp [go_sem], by simp [go_sem], by simp [go_sem], fun o => by simp [go_sem]⟩
  case round =>
    obtain ⟨k, z, hk, hk2, rfl, z0, z1, Br, lt, c0, c1, c2, fz⟩ := hrel
    by_cases hlt : (k : Int) < xs.length
    · by_cases h64 : (k : Int) < 64
      · obtain ⟨b, off, x, rfl, hb, hx, cx, x0, x1⟩ := H.out.at_ (k := k) (by omega)
        have cx' := (bAt Br (b := b) (o := off + k) hb).trans cx
        have kk0 : (0 : Int) ≤ k := by omega
        have nb : b ≠ w.heap.size := by omega
        have W1 : IntKind.i64.wrap (z * 61) = z * 61 := IntWalk.i64_in _ (by omega)
        have W2 : IntKind.i64.wrap (z * 61 + x) = z * 61 + x := IntWalk.i64_in _ (by omega)
        have W3 : IntKind.i64.wrap x = x := IntWalk.i64_in _ (by omega)
        have m0 : 0 ≤ (z * 61 + x).tmod 2147483647 := Int.tmod_nonneg _ (by omega)
        have m1 : (z * 61 + x).tmod 2147483647 < 2147483647 := Int.tmod_lt_of_pos _ (by omega)
        obtain ⟨s, hs⟩ : ∃ s, (z * 61 + x).tmod 2147483647 = s := ⟨_, rfl⟩
        rw [hs] at m0 m1
        have HBr := Lib.hid Br; have HX := Lib.hid hx; clear Br hx
        go_wp2_with fail
        go_region
        all_goals go_wp2
        all_goals go_roundw
        all_goals first | exact ⟨k + 1, s, by omega, by omega, by go_num, m0, m1, (by have hb_ := HBr.out; go_grown), by first | omega | (simp; omega), by simp [*, go_sem], by simp [*, go_sem], by simp [*, go_sem], fun o => by simp [*, go_sem]⟩ | (simp [intOf]; omega)
      · have hsrc : SrcAt wr w.heap.size A c xs := ⟨lt, fz, c0, ⟨0, by omega, c1⟩, ⟨z, z0, z1, c2⟩, H.out.below Br (Nat.le_refl _), fun hx b off e => by
          rcases H.out.2.2 with g | ⟨b', off', e', hb', -⟩
          · exact absurd g hx
          · rw [e] at e'; simp only [Option.some.injEq, Addr.mk.injEq, and_true] at e'; omega⟩
        have HS := Lib.hid hsrc; clear hsrc
        go_wp2
        go_ret
        exact ⟨rfl, HS.out, Br⟩
    · have hsrc : SrcAt wr w.heap.size A c xs := ⟨lt, fz, c0, ⟨0, by omega, c1⟩, ⟨z, z0, z1, c2⟩, H.out.below Br (Nat.le_refl _), fun hx b off e => by
        rcases H.out.2.2 with g | ⟨b', off', e', hb', -⟩
        · exact absurd g hx
        · rw [e] at e'; simp only [Option.some.injEq, Addr.mk.injEq, and_true] at e'; omega⟩
      have HS := Lib.hid hsrc; clear hsrc
      go_wp2
      go_ret
      exact ⟨rfl, HS.out, Br⟩
end Go.Proofs.Ytjabldjffpjkeaa
