/- The law's dice: numbers that follow from a code; what is said of them: they lie in their bounds. -/
import Derived.Test.YtjabldjffpjkeaaSrc
import Derived.WalkSmall
namespace Go.Proofs.Ytjabldjffpjkeaa
set_option linter.unusedSimpArgs false
set_option linter.unusedVariables false
open Go.RowKit

/-- a dice in block D, over these bytes -/
structure DiceAt (w : World) (D : Nat) (A : Option Addr) (c : Nat) (xs : List Int) : Prop where
  lt : D < w.heap.size
  fr : ∀ o, w.frozen? ⟨D, o, none⟩ = false
  code : w.cell? ⟨D, 0, none⟩ = some (.slice A xs.length c)
  at_ : ∃ k : Nat, k ≤ xs.length ∧ w.cell? ⟨D, 1, none⟩ = some (.int .i64 k)
  h : ∃ z : Int, w.cell? ⟨D, 2, none⟩ = some (.int .u64 z)
  bytes : BytesAt w A c xs
  low : xs ≠ [] → ∀ b off, A = some ⟨b, off, none⟩ → b < D
section
variable {w w1 : World} {A : Option Addr} {c D B lo hi : Nat} {xs : List Int}
theorem DiceAt.of_block (h : DiceAt w D A c xs) (hs : w.heap.size ≤ w1.heap.size) (hb : w1.heap[D]? = w.heap[D]?) (hl : ∀ b, b < D → w1.heap[b]? = w.heap[b]?) : DiceAt w1 D A c xs := by
  have hc : ∀ o, w1.cell? ⟨D, o, none⟩ = w.cell? ⟨D, o, none⟩ := fun o => World.cell?_of_block (w := w) hb
  refine ⟨Nat.lt_of_lt_of_le h.lt hs, fun o => (World.frozen?_of_block (w := w) hb).trans (h.fr o), (hc 0).trans h.code, ?_, ?_, h.bytes.blocks hs (fun hx b off e => hl b (h.low hx b off e)), h.low⟩
  · obtain ⟨k, h1, h2⟩ := h.at_
    exact ⟨k, h1, (hc 1).trans h2⟩
  · obtain ⟨z, h3⟩ := h.h
    exact ⟨z, (hc 2).trans h3⟩
theorem DiceAt.below (h : DiceAt w D A c xs) (hb : Below B w w1) (hB : D < B) : DiceAt w1 D A c xs := h.of_block hb.size (hb.block D hB) (fun b hl => hb.block b (by omega))
theorem DiceAt.mk_chg (h : DiceAt w D A c xs) (hc : Chg D (D + 1) w w1) (hf : ∀ o, w1.frozen? ⟨D, o, none⟩ = false) (h0 : w1.cell? ⟨D, 0, none⟩ = some (.slice A xs.length c)) {k : Nat} (hk : k ≤ xs.length) (h1 : w1.cell? ⟨D, 1, none⟩ = some (.int .i64 k))
    {z : Int} (h2 : w1.cell? ⟨D, 2, none⟩ = some (.int .u64 z)) : DiceAt w1 D A c xs :=
  ⟨by rw [hc.size]; exact h.lt, hf, h0, ⟨k, hk, h1⟩, ⟨z, h2⟩, h.bytes.blocks (by rw [hc.size]; exact Nat.le_refl _) (fun hx b off e => hc.block b (.inl (h.low hx b off e))), h.low⟩
end
/-- the bits that a draw takes -/
def dbit (q : Int) : Int := bits BinOp.and IntKind.u64 q 16777215
theorem dbit_bd (z : Int) : 0 ≤ dbit (IntKind.u64.wrap z / 8589934592) ∧ dbit (IntKind.u64.wrap z / 8589934592) ≤ 16777215 := by
  obtain ⟨q, hq⟩ : ∃ q : Nat, IntKind.u64.wrap z / 8589934592 = (q : Int) ∧ q < 18446744073709551616 := by
    have h0 : 0 ≤ IntKind.u64.wrap z ∧ IntKind.u64.wrap z < 18446744073709551616 := by
      simp only [IntKind.wrap, IntKind.bits, IntKind.signed]
      have e1 := Int.emod_nonneg z (show (18446744073709551616 : Int) ≠ 0 by omega)
      have e2 := Int.emod_lt_of_pos z (show (0 : Int) < 18446744073709551616 by omega)
      simp
      omega
    refine ⟨(IntKind.u64.wrap z / 8589934592).toNat, ?_, ?_⟩ <;> omega
  obtain ⟨h1, h2⟩ := hq
  unfold dbit
  rw [h1, show (16777215 : Int) = ((16777215 : Nat) : Int) from rfl, bits_and_u64_nat _ _ h2 (by omega)]
  have := Nat.and_le_right (n := q) (m := 16777215)
  omega

set_option maxHeartbeats 4000000 in
theorem below_any (D : Nat) (A : Option Addr) (c : Nat) (xs : List Int) (n : Int) (w : World) (h : DiceAt w D A c xs) (hn : 1 ≤ n) (hn2 : n ≤ 1000000000000) :
    Calls Try.prog 23 #[.pointer (some ⟨D, 0, none⟩), .int .i64 n] w fun e w' => (∃ x : Int, e = .returned (.int .i64 x) ∧ 0 ≤ x ∧ x < n) ∧ DiceAt w' D A c xs ∧ Chg D (D + 1) w w' := by
  obtain ⟨k, hk, c1⟩ := h.at_
  obtain ⟨z, c2⟩ := h.h
  have c0 := h.code; have lt := h.lt; have fr := h.fr
  have hlen := h.bytes.1; have hc63 := h.bytes.2.1
  have hnz : ¬ n = 0 := by omega
  have H := Lib.hid h; clear h
  have HB := dbit_bd (IntKind.u64.wrap (z * 6364136223846793005) + 1442695040888963407)
  unfold dbit at HB
  have HB := Lib.hid HB
  by_cases hat : (k : Int) < xs.length
  · obtain ⟨b, off, y, hA, hb, hy, cy, y0, y1⟩ := H.out.bytes.at_ (k := k) (by omega)
    have hbS := H.out.low (by intro e; rw [e] at hat; simp at hat; omega) b off hA
    subst hA
    have kk0 : (0 : Int) ≤ k := by omega
    have nb1 : b ≠ D := by omega
    have nb2 : D ≠ b := by omega
    have hy' := Lib.hid hy; clear hy
    go_enter Try.func23, Try.ntmps23
    go_wp2_with fail
    have HB := HB.out
    generalize IntKind.u64.wrap (IntKind.u64.wrap (z * 6364136223846793005) + 1442695040888963407) = zz at HB ⊢
    generalize IntKind.u64.wrap (z * 6364136223846793005) = z3
    generalize bits BinOp.and IntKind.u64 (zz / 8589934592) 16777215 = x0 at HB ⊢
    obtain ⟨a0, a1⟩ := HB
    have W0 : wrap64 x0 = x0 := by unfold wrap64; omega
    (try rw [W0])
    have W3 : IntKind.i64.wrap (x0 + y) = x0 + y := IntWalk.i64_in _ (by omega)
    have W4 : IntKind.i64.wrap ((k : Int) + 1) = (k : Int) + 1 := IntWalk.i64_in _ (by omega)
    have W5 : IntKind.i64.wrap y = y := IntWalk.i64_in _ (by omega)
    clear W0
    go_quiet (fail)
    go_wp2_with fail
    go_quiet (fail)
    go_wp2_with fail
    go_ret
    refine ⟨⟨_, rfl, Int.emod_nonneg _ hnz, Int.emod_lt_of_pos _ (by omega)⟩, H.out.mk_chg (k := k + 1) (z := zz) ?_ (fun o => by simp [*, go_sem]) (by simp [*, go_sem]) (by omega) (by simp [*, go_sem]) (by simp [*, go_sem]), ?_⟩
    all_goals exact (by repeat' (first | exact Chg.refl _ _ _ | refine Chg.drewN ?_ _ | refine Chg.set ?_ ?_ ?_ _ | exact Nat.le_refl _ | exact Nat.lt_succ_self _))
  · go_enter Try.func23, Try.ntmps23
    go_wp2_with fail
    have HB := HB.out
    generalize IntKind.u64.wrap (IntKind.u64.wrap (z * 6364136223846793005) + 1442695040888963407) = zz at HB ⊢
    generalize IntKind.u64.wrap (z * 6364136223846793005) = z3
    generalize bits BinOp.and IntKind.u64 (zz / 8589934592) 16777215 = x0 at HB ⊢
    obtain ⟨a0, a1⟩ := HB
    have W0 : wrap64 x0 = x0 := by unfold wrap64; omega
    (try rw [W0])
    clear W0
    go_quiet (fail)
    go_wp2_with fail
    go_ret
    refine ⟨⟨_, rfl, Int.emod_nonneg _ hnz, Int.emod_lt_of_pos _ (by omega)⟩, H.out.mk_chg (k := k) (z := zz) ?_ (fun o => by simp [*, go_sem]) (by simp [*, go_sem]) hk (by simp [*, go_sem]) (by simp [*, go_sem]), ?_⟩
    all_goals exact (by repeat' (first | exact Chg.refl _ _ _ | refine Chg.drewN ?_ _ | refine Chg.set ?_ ?_ ?_ _ | exact Nat.le_refl _ | exact Nat.lt_succ_self _))
set_option maxHeartbeats 4000000 in
theorem roll_any (A : Option Addr) (c : Nat) (xs : List Int) (sd : Int) (w : World) (h : BytesAt w A c xs) :
    Calls Try.prog 22 #[.slice A xs.length c, .int .u64 sd] w fun e w' => ∃ D, e = .returned (.pointer (some ⟨D, 0, none⟩)) ∧ w.heap.size ≤ D ∧ DiceAt w' D A c xs ∧ Below w.heap.size w w' := by
  have H := Lib.hid h
  have hn := Nat.le_trans h.1 h.2.1
  clear h
  go_enter Try.func22, Try.ntmps22
  go_wp2
  go_loopw [6] (fun i wr => ∃ (k : Nat) (z : Int), k ≤ xs.length ∧ i = .int .i64 k ∧ Below w.heap.size w wr ∧ w.heap.size < wr.heap.size ∧ wr.cell? ⟨w.heap.size, 0, none⟩ = some (.slice A xs.length c) ∧ wr.cell? ⟨w.heap.size, 1, none⟩ = some (.int .i64 0) ∧ wr.cell? ⟨w.heap.size, 2, none⟩ = some (.int .u64 z) ∧ (∀ o, wr.frozen? ⟨w.heap.size, o, none⟩ = false)) (fun i _ => xs.length - (intOf i).toNat)
  case atStart => exact ⟨0, _, by omega, rfl, by go_grown, by simp, by simp [go_sem], by simp [go_sem], by simp [go_sem] <;> rfl, fun o => by simp [go_sem]⟩
  case round =>
    obtain ⟨k, z, hk, rfl, Br, lt, c0, c1, c2, fz⟩ := hrel
    by_cases hlt : (k : Int) < xs.length
    · obtain ⟨b, off, x, rfl, hb, hx, cx, x0, x1⟩ := H.out.at_ (k := k) (by omega)
      have cx' := (bAt Br (b := b) (o := off + k) hb).trans cx
      have kk0 : (0 : Int) ≤ k := by omega
      have nb : b ≠ w.heap.size := by omega
      have HBr := Lib.hid Br; have HX := Lib.hid hx; clear Br hx
      go_wp2_with fail
      go_region
      all_goals go_wp2
      all_goals go_roundw
      all_goals first | exact ⟨k + 1, _, by omega, by go_num, (by have hb_ := HBr.out; go_grown), by first | omega | (simp; omega), by simp [*, go_sem], by simp [*, go_sem], by simp [*, go_sem] <;> rfl, fun o => by simp [*, go_sem]⟩ | (simp [intOf]; omega)
    · have hd : DiceAt wr w.heap.size A c xs := ⟨lt, fz, c0, ⟨0, by omega, c1⟩, ⟨z, c2⟩, H.out.below Br (Nat.le_refl _), fun hx b off e => by
        rcases H.out.2.2 with g | ⟨b', off', e', hb', -⟩
        · exact absurd g hx
        · rw [e] at e'; simp only [Option.some.injEq, Addr.mk.injEq, and_true] at e'; omega⟩
      have HS := Lib.hid hd; clear hd
      go_wp2
      go_ret
      exact ⟨_, rfl, Nat.le_refl _, HS.out, Br⟩
end Go.Proofs.Ytjabldjffpjkeaa
