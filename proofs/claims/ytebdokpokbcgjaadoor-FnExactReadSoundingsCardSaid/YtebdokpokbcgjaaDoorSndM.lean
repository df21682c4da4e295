/- A list of soundings marked: numbered from k0 on; what is held. -/
import Derived.Test.YtebdokpokbcgjaaDoorSnd2
namespace Go.Proofs.YtebdokpokbcgjaaDoor
set_option linter.unusedSimpArgs false
set_option linter.unusedVariables false
open Go.RowKit

/-- n soundings, their numbers counted on from k0 -/
def seqS (n : Nat) (k0 : Int) : List Snd := (List.range n).map fun (i : Nat) => ⟨k0 + 4 * (i : Int), k0 + 4 * (i : Int) + 1, k0 + 4 * (i : Int) + 2, k0 + 4 * (i : Int) + 3⟩
theorem seqS_len (n : Nat) (k0 : Int) : (seqS n k0).length = n := by simp [seqS]
theorem seqS_at {n i : Nat} {k0 : Int} {s : Snd} (h : (seqS n k0)[i]? = some s) : i < n ∧ s = ⟨k0 + 4 * i, k0 + 4 * i + 1, k0 + 4 * i + 2, k0 + 4 * i + 3⟩ := by
  have hi : i < n := by have := (List.getElem?_eq_some_iff.1 h).1; rwa [seqS_len] at this
  unfold seqS at h
  rw [List.getElem?_map, List.getElem?_range hi] at h
  simp at h
  exact ⟨hi, h.symm⟩
theorem four_set (W : World) (b o : Nat) (v0 v1 v2 v3 : Value) (h0 : (W.cell? ⟨b, o, none⟩).isSome = true) (h1 : (W.cell? ⟨b, o + 1, none⟩).isSome = true) (h2 : (W.cell? ⟨b, o + 2, none⟩).isSome = true) (h3 : (W.cell? ⟨b, o + 3, none⟩).isSome = true) :
    ((((W.setCell ⟨b, o, none⟩ v0).setCell ⟨b, o + 1, none⟩ v1).setCell ⟨b, o + 2, none⟩ v2).setCell ⟨b, o + 3, none⟩ v3).cell? ⟨b, o, none⟩ = some v0 ∧
    ((((W.setCell ⟨b, o, none⟩ v0).setCell ⟨b, o + 1, none⟩ v1).setCell ⟨b, o + 2, none⟩ v2).setCell ⟨b, o + 3, none⟩ v3).cell? ⟨b, o + 1, none⟩ = some v1 ∧
    ((((W.setCell ⟨b, o, none⟩ v0).setCell ⟨b, o + 1, none⟩ v1).setCell ⟨b, o + 2, none⟩ v2).setCell ⟨b, o + 3, none⟩ v3).cell? ⟨b, o + 2, none⟩ = some v2 ∧
    ((((W.setCell ⟨b, o, none⟩ v0).setCell ⟨b, o + 1, none⟩ v1).setCell ⟨b, o + 2, none⟩ v2).setCell ⟨b, o + 3, none⟩ v3).cell? ⟨b, o + 3, none⟩ = some v3 ∧
    ∀ x, (x < o ∨ o + 3 < x) → ((((W.setCell ⟨b, o, none⟩ v0).setCell ⟨b, o + 1, none⟩ v1).setCell ⟨b, o + 2, none⟩ v2).setCell ⟨b, o + 3, none⟩ v3).cell? ⟨b, x, none⟩ = W.cell? ⟨b, x, none⟩ := by
  have ne : ∀ {x y : Nat}, x ≠ y → (⟨b, x, none⟩ : Addr) ≠ ⟨b, y, none⟩ := fun h e => h (Addr.mk.injEq .. ▸ e).2.1
  have ot : ∀ (V : World) (x y : Nat) (v : Value), x ≠ y → (V.setCell ⟨b, x, none⟩ v).cell? ⟨b, y, none⟩ = V.cell? ⟨b, y, none⟩ := fun V x y v h => World.cell?_setCell_other _ _ _ _ (ne h)
  refine ⟨?_, ?_, ?_, ?_, fun x hx => ?_⟩
  · rw [ot _ _ _ _ (by omega), ot _ _ _ _ (by omega), ot _ _ _ _ (by omega)]
    exact World.cell?_setCell_same' _ _ _ h0
  · rw [ot _ _ _ _ (by omega), ot _ _ _ _ (by omega)]
    exact World.cell?_setCell_same' _ _ _ (by rw [ot _ _ _ _ (by omega)]; exact h1)
  · rw [ot _ _ _ _ (by omega)]
    exact World.cell?_setCell_same' _ _ _ (by rw [ot _ _ _ _ (by omega), ot _ _ _ _ (by omega)]; exact h2)
  · exact World.cell?_setCell_same' _ _ _ (by rw [ot _ _ _ _ (by omega), ot _ _ _ _ (by omega), ot _ _ _ _ (by omega)]; exact h3)
  · rw [ot _ _ _ _ (by omega), ot _ _ _ _ (by omega), ot _ _ _ _ (by omega), ot _ _ _ _ (by omega)]

set_option maxHeartbeats 2000000 in
theorem markSoundingR_any (A : Option Addr) (c : Nat) (xs : List Snd) (k0 : Int) (lo hi : Nat) (w : World) (hx : ResS w lo hi A c xs) (hk : 0 ≤ k0) (hk2 : k0 ≤ 1000000000) (hl : xs.length ≤ 1048576) :
    Calls Tryd.prog 25 #[.slice A xs.length c, .int .i64 k0] w fun e w' => (e = .returned (.int .i64 (k0 + 4 * xs.length)) ∧ ResS w' lo hi A c (seqS xs.length k0)) ∧ Chg lo hi w w' := by
  rcases hx.2.2 with rfl | ⟨b, off, rfl, h1, h2, h3, hf, hcell⟩
  · go_enter Tryd.func25, Tryd.ntmps25
    go_wp2
    refine Go.wp_loop_rounds 1 ?_
    rw [rounds_succ]
    go_wp2
    go_ret
    exact ⟨⟨ret_int (by simp), (show ResS w lo hi A c [] from ResS.nil _ _ _ _ _ hx.2.1)⟩, Chg.refl _ _ _⟩
  · have hc1 := hx.1
    have hc2 := hx.2.1
    clear hx
    have HC : Hid (∀ o, o < xs.length * 4 → (w.cell? ⟨b, off + o, none⟩).isSome = true) := by
      intro o ho
      have hi4 : o / 4 < xs.length := by omega
      have := hcell (o / 4) _ (List.getElem?_eq_getElem hi4)
      have e4 : o % 4 = 0 ∨ o % 4 = 1 ∨ o % 4 = 2 ∨ o % 4 = 3 := by omega
      rcases e4 with e | e | e | e
      · rw [show off + o = off + o / 4 * 4 by omega, this.1]; rfl
      · rw [show off + o = off + o / 4 * 4 + 1 by omega, this.2.1]; rfl
      · rw [show off + o = off + o / 4 * 4 + 2 by omega, this.2.2.1]; rfl
      · rw [show off + o = off + o / 4 * 4 + 3 by omega, this.2.2.2]; rfl
    clear hcell
    have hset : Hid (∀ (W : World) (a v : _) , (∀ o, o < xs.length * 4 → (W.cell? ⟨b, off + o, none⟩).isSome = true) → ∀ o, o < xs.length * 4 → ((W.setCell a v).cell? ⟨b, off + o, none⟩).isSome = true) := by
      intro W a v h o ho
      by_cases e : a = ⟨b, off + o, none⟩
      · subst e
        rw [World.cell?_setCell_same' _ _ _ (h o ho)]; rfl
      · rw [World.cell?_setCell_other _ _ _ _ e]; exact h o ho
    go_enter Tryd.func25, Tryd.ntmps25
    go_wp2
    go_loopw [1, 5] (fun kk i wr => Chg lo hi w wr ∧ (∀ o, wr.frozen? ⟨b, o, none⟩ = false) ∧ (∀ o, o < xs.length * 4 → (wr.cell? ⟨b, off + o, none⟩).isSome = true) ∧ ∃ j : Nat, j ≤ xs.length ∧ i = .int .i64 j ∧ kk = .int .i64 (k0 + 4 * j) ∧ ∀ q : Nat, q < j → wr.cell? ⟨b, off + q * 4, none⟩ = some (.int .i64 (k0 + 4 * q)) ∧ wr.cell? ⟨b, off + q * 4 + 1, none⟩ = some (.int .i64 (k0 + 4 * q + 1)) ∧ wr.cell? ⟨b, off + q * 4 + 2, none⟩ = some (.int .i64 (k0 + 4 * q + 2)) ∧ wr.cell? ⟨b, off + q * 4 + 3, none⟩ = some (.int .i64 (k0 + 4 * q + 3))) (fun _ i _ => xs.length - (intOf i).toNat)
    case atStart => exact ⟨Chg.refl _ _ _, hf, HC.out, 0, by omega, rfl, vint (by omega), fun q hq => by omega⟩
    case round =>
      obtain ⟨Cr, hfr, hp, j, hj, rfl, rfl, hq⟩ := hrel
      have HQ := Lib.hid hq; clear hq
      by_cases hlt : j < xs.length
      · obtain ⟨u0, g0⟩ := Option.isSome_iff_exists.1 (hp (j * 4) (by omega))
        obtain ⟨u1, g1⟩ := Option.isSome_iff_exists.1 (hp (j * 4 + 1) (by omega))
        obtain ⟨u2, g2⟩ := Option.isSome_iff_exists.1 (hp (j * 4 + 2) (by omega))
        obtain ⟨u3, g3⟩ := Option.isSome_iff_exists.1 (hp (j * 4 + 3) (by omega))
        simp only [← Nat.add_assoc] at g1 g2 g3
        have FS := Lib.hid (fun v0 v1 v2 v3 => four_set wr b (off + j * 4) v0 v1 v2 v3 (by rw [g0]; rfl) (by rw [g1]; rfl) (by rw [g2]; rfl) (by rw [g3]; rfl))
        have HP := Lib.hid hp; clear hp
        go_wp2
        go_roundw
        case rel =>
          refine ⟨(((Cr.set h1 h2 _).set h1 h2 _).set h1 h2 _).set h1 h2 _, fun o => by simp only [World.frozen?_setCell]; exact hfr o, hset.out _ _ _ (hset.out _ _ _ (hset.out _ _ _ (hset.out _ _ _ HP.out))), j + 1, by omega, by go_num, vint (by omega), fun q hq => ?_⟩
          obtain ⟨e0, e1, e2, e3, eo⟩ := FS.out (.int .i64 (k0 + 4 * j)) (.int .i64 (k0 + 4 * j + 1)) (.int .i64 (k0 + 4 * j + 1 + 1)) (.int .i64 (k0 + 4 * j + 1 + 1 + 1))
          by_cases hqj : q < j
          · obtain ⟨d0, d1, d2, d3⟩ := HQ.out q hqj
            exact ⟨(eo _ (by omega)).trans d0, (eo _ (by omega)).trans d1, (eo _ (by omega)).trans d2, (eo _ (by omega)).trans d3⟩
          · obtain rfl : q = j := by omega
            exact ⟨e0, e1, e2.trans (congrArg some (vint (by omega))), e3.trans (congrArg some (vint (by omega)))⟩
        case measure => simp [intOf]; omega
      · obtain rfl : j = xs.length := by omega
        go_wp2
        go_ret
        refine ⟨⟨rfl, by rw [seqS_len]; exact hc1, hc2, .inr ⟨b, off, rfl, h1, h2, by rw [Cr.size]; exact h3, hfr, fun i s hs => ?_⟩⟩, Cr⟩
        obtain ⟨hi, rfl⟩ := seqS_at hs
        exact HQ.out i hi
set_option maxHeartbeats 2000000 in
theorem heldSoundingR_any (A : Option Addr) (c n : Nat) (k0 : Int) (w : World) (hx : SndsAt w A c (seqS n k0)) (hk : 0 ≤ k0) (hk2 : k0 ≤ 1000000000) (hl : n ≤ 1048576) :
    Calls Tryd.prog 26 #[.slice A n c, .int .i64 k0] w fun e w' => e = .returned (.int .i64 (k0 + 4 * n)) ∧ w = w' := by
  have HX := Lib.hid hx; clear hx
  go_enter Tryd.func26, Tryd.ntmps26
  go_wp2
  go_loop [1, 5] (fun kk i => ∃ j : Nat, j ≤ n ∧ i = .int .i64 j ∧ kk = .int .i64 (k0 + 4 * j)) (fun _ i => n - (intOf i).toNat)
  case atStart => exact ⟨0, by omega, rfl, vint (by omega)⟩
  case round =>
    obtain ⟨j, hj, rfl, rfl⟩ := hrel
    by_cases hlt : j < n
    · obtain ⟨b, off, a, bb, d, e, rfl, hb, hxk, c0, c1, c2, c3⟩ := HX.out.at_ (k := j) (by rw [seqS_len]; exact hlt)
      obtain ⟨-, hs⟩ := seqS_at hxk
      injection hs with s0 s1 s2 s3
      subst s0 s1 s2 s3
      clear hxk
      have q1 : ((k0 + 4 * (j : Int) + 1 + 1 : Int)) = k0 + 4 * j + 2 := by omega
      have q2 : ((k0 + 4 * (j : Int) + 1 + 1 + 1 : Int)) = k0 + 4 * j + 3 := by omega
      go_wp2
      go_round
      case rel => exact ⟨j + 1, by omega, by go_num, vint (by omega)⟩
      case measure => simp [intOf]; omega
    · obtain rfl : j = n := by omega
      go_wp2
      go_ret
      exact ⟨rfl, rfl⟩
end Go.Proofs.YtebdokpokbcgjaaDoor
