/- Lists of soundings compared; the law on AreSoundings. -/
import Derived.Test.YtebdokpokbcgjaaDoorSnd1
namespace Go.Proofs.YtebdokpokbcgjaaDoor
set_option linter.unusedSimpArgs false
set_option linter.unusedVariables false
open Go.RowKit

set_option maxHeartbeats 400000 in
theorem eqSounding_same (a b c d : Int) (w : World) :
    Calls Tryd.prog 60 #[sndV a b c d, sndV a b c d] w fun e w' => e = .returned (.bool true) ∧ Below w.heap.size w w' := by
  go_enter Tryd.func60, Tryd.ntmps60
  go_wp2
  go_ret
  exact ⟨rfl, by go_grown⟩

set_option maxHeartbeats 1000000 in
theorem eqSoundingS_same (A A' : Option Addr) (c c' : Nat) (xs : List Snd) (w : World) (hx : SndsAt w A c xs) (hx' : SndsAt w A' c' xs) :
    Calls Tryd.prog 18 #[.slice A xs.length c, .slice A' xs.length c'] w fun e w' => e = .returned (.bool true) ∧ Below w.heap.size w w' := by
  have hn := Nat.le_trans hx.1 hx.2.1
  have HX := Lib.hid hx; clear hx
  have HX' := Lib.hid hx'; clear hx'
  go_enter Tryd.func18, Tryd.ntmps18
  go_wp2
  go_loopw [5] (fun i wr => Below w.heap.size w wr ∧ ∃ k : Nat, k ≤ xs.length ∧ i = .int .i64 k) (fun i _ => xs.length - (intOf i).toNat)
  case atStart => exact ⟨Below.refl _ _, 0, by omega, rfl⟩
  case round =>
    obtain ⟨Br, k, hk, rfl⟩ := hrel
    have tr := bold Br
    have zr := bnew Br
    by_cases hlt : k < xs.length
    · obtain ⟨b, off, x, y, d, e, rfl, hb, hxk, c0, c1, c2, c3⟩ := HX.out.at_ hlt
      obtain ⟨b', off', x', y', d', e', rfl, hb', hxk', c0', c1', c2', c3'⟩ := HX'.out.at_ hlt
      rw [hxk] at hxk'
      simp only [Option.some.injEq, Snd.mk.injEq] at hxk'
      obtain ⟨rfl, rfl, rfl, rfl⟩ := hxk'
      clear hxk
      have hk0 : (0 : Int) ≤ (k : Int) := Int.natCast_nonneg _
      have hk1 : (k : Int) < (xs.length : Int) := by omega
      go_wp2_with fail
      go_region_held3 (fun w' => (w'.cell? ⟨b, off + k * 4, none⟩ = some (.int .i64 x) ∧ w'.cell? ⟨b, off + k * 4 + 1, none⟩ = some (.int .i64 y) ∧ w'.cell? ⟨b, off + k * 4 + 2, none⟩ = some (.int .i64 d) ∧ w'.cell? ⟨b, off + k * 4 + 3, none⟩ = some (.int .i64 e)) ∧
        (w'.cell? ⟨b', off' + k * 4, none⟩ = some (.int .i64 x) ∧ w'.cell? ⟨b', off' + k * 4 + 1, none⟩ = some (.int .i64 y) ∧ w'.cell? ⟨b', off' + k * 4 + 2, none⟩ = some (.int .i64 d) ∧ w'.cell? ⟨b', off' + k * 4 + 3, none⟩ = some (.int .i64 e))) (go_keep)
        ((go_at_call 60; refine (eqSounding_same _ _ _ _ _).mono ?_; rintro e w1 ⟨rfl, hb1⟩; obtain ⟨B1, hz1, q1, s1, t1, x1, y1, z1⟩ := bkeep (w := w) [] (by simp) (by go_grown) hb1; clear hb1))
      go_wp2
      go_roundw
      case rel => exact ⟨by go_grown, k + 1, by omega, by go_num⟩
      case measure => simp [intOf]; omega
    · go_wp2
      go_ret
      exact ⟨rfl, Br⟩

set_option maxHeartbeats 1000000 in
theorem markSoundingS_any (A : Option Addr) (c : Nat) (xs : List Snd) (k0 : Int) (lo hi : Nat) (w : World) (hx : ResS w lo hi A c xs) (hk : 0 ≤ k0) (hk2 : k0 ≤ 1000000000) (hl : xs.length ≤ 1048576) :
    Calls Tryd.prog 25 #[.slice A xs.length c, .int .i64 k0] w fun e w' => e = .returned (.int .i64 (k0 + 4 * xs.length)) ∧ Chg lo hi w w' := by
  rcases hx.2.2 with rfl | ⟨b, off, rfl, h1, h2, h3, hf, hcell⟩
  · go_enter Tryd.func25, Tryd.ntmps25
    go_wp2
    refine Go.wp_loop_rounds 1 ?_
    rw [rounds_succ]
    go_wp2
    go_ret
    exact ⟨ret_int (by simp), Chg.refl _ _ _⟩
  · have HC : Hid (∀ o, o < xs.length * 4 → (w.cell? ⟨b, off + o, none⟩).isSome = true) := by
      intro o ho
      have hi4 : o / 4 < xs.length := by omega
      have := hcell (o / 4) _ (List.getElem?_eq_getElem hi4)
      have e4 : o % 4 = 0 ∨ o % 4 = 1 ∨ o % 4 = 2 ∨ o % 4 = 3 := by omega
      rcases e4 with e | e | e | e
      · rw [show off + o = off + o / 4 * 4 by omega, this.1]; rfl
      · rw [show off + o = off + o / 4 * 4 + 1 by omega, this.2.1]; rfl
      · rw [show off + o = off + o / 4 * 4 + 2 by omega, this.2.2.1]; rfl
      · rw [show off + o = off + o / 4 * 4 + 3 by omega, this.2.2.2]; rfl
    clear hcell
    have hset : Hid (∀ (W : World) (a v : _) , (∀ o, o < xs.length * 4 → (W.cell? ⟨b, off + o, none⟩).isSome = true) → ∀ o, o < xs.length * 4 → ((W.setCell a v).cell? ⟨b, off + o, none⟩).isSome = true) := by
      intro W a v h o ho
      by_cases e : a = ⟨b, off + o, none⟩
      · subst e
        rw [World.cell?_setCell_same' _ _ _ (h o ho)]; rfl
      · rw [World.cell?_setCell_other _ _ _ _ e]; exact h o ho
    go_enter Tryd.func25, Tryd.ntmps25
    go_wp2
    go_loopw [1, 5] (fun kk i wr => Chg lo hi w wr ∧ (∀ o, wr.frozen? ⟨b, o, none⟩ = false) ∧ (∀ o, o < xs.length * 4 → (wr.cell? ⟨b, off + o, none⟩).isSome = true) ∧ ∃ j : Nat, j ≤ xs.length ∧ i = .int .i64 j ∧ kk = .int .i64 (k0 + 4 * j)) (fun _ i _ => xs.length - (intOf i).toNat)
    case atStart => exact ⟨Chg.refl _ _ _, hf, HC.out, 0, by omega, rfl, vint (by omega)⟩
    case round =>
      obtain ⟨Cr, hfr, hp, j, hj, rfl, rfl⟩ := hrel
      by_cases hlt : j < xs.length
      · obtain ⟨u0, g0⟩ := Option.isSome_iff_exists.1 (hp (j * 4) (by omega))
        obtain ⟨u1, g1⟩ := Option.isSome_iff_exists.1 (hp (j * 4 + 1) (by omega))
        obtain ⟨u2, g2⟩ := Option.isSome_iff_exists.1 (hp (j * 4 + 2) (by omega))
        obtain ⟨u3, g3⟩ := Option.isSome_iff_exists.1 (hp (j * 4 + 3) (by omega))
        simp only [← Nat.add_assoc] at g1 g2 g3
        have HP := Lib.hid hp; clear hp
        go_wp2
        go_roundw
        case rel =>
          exact ⟨(((Cr.set h1 h2 _).set h1 h2 _).set h1 h2 _).set h1 h2 _, fun o => by simp only [World.frozen?_setCell]; exact hfr o, hset.out _ _ _ (hset.out _ _ _ (hset.out _ _ _ (hset.out _ _ _ HP.out))), j + 1, by omega, by go_num, vint (by omega)⟩
        case measure => simp [intOf]; omega
      · obtain rfl : j = xs.length := by omega
        go_wp2
        go_ret
        exact ⟨rfl, Cr⟩

end Go.Proofs.YtebdokpokbcgjaaDoor