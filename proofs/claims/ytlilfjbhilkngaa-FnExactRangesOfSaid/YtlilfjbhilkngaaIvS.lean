/- Lists of intervals: equal, marked, held. -/
import Derived.Test.YtlilfjbhilkngaaTrace1
import Derived.Test.YtlilfjbhilkngaaCut2
namespace Go.Proofs.Ytlilfjbhilkngaa
set_option linter.unusedSimpArgs false
set_option linter.unusedVariables false
open Go.RowKit


def seqV (n : Nat) (k0 : Int) : List (Int × Int) := (List.range n).map fun (i : Nat) => ((k0 + 2 * (i : Int), k0 + 2 * (i : Int) + 1) : Int × Int)
theorem seqV_len (n : Nat) (k0 : Int) : (seqV n k0).length = n := by simp [seqV]
theorem seqV_get (n : Nat) (k0 : Int) (i : Nat) (h : i < n) : (seqV n k0)[i]? = some (k0 + 2 * (i : Int), k0 + 2 * (i : Int) + 1) := by
  rw [seqV, List.getElem?_map, List.getElem?_range h]; rfl
theorem iv_cells {w : World} {A : Option Addr} {c k : Nat} {L : List (Int × Int)} (h : KAt w A c 2 (L.map ivCell)) (hk : k < L.length) :
    ∃ b off x, A = some ⟨b, off, none⟩ ∧ b < w.heap.size ∧ L[k]? = some x ∧ w.cell? ⟨b, off + k * 2, none⟩ = some (.int .i64 x.1) ∧ w.cell? ⟨b, off + k * 2 + 1, none⟩ = some (.int .i64 x.2) := by
  obtain ⟨b, off, e, rfl, hb, he, hc⟩ := h.at_ (i := k) (by rw [List.length_map]; exact hk)
  rw [List.getElem?_map, List.getElem?_eq_getElem hk] at he
  simp only [Option.map_some, Option.some.injEq] at he
  subst he
  exact ⟨b, off, _, rfl, hb, List.getElem?_eq_getElem hk, by have := hc 0 _ rfl; simpa using this, hc 1 _ rfl⟩

set_option maxHeartbeats 1000000 in
theorem eqIntervalS_same (A A' : Option Addr) (c c' : Nat) (L : List (Int × Int)) (w : World) (hx : KAt w A c 2 (L.map ivCell)) (hx' : KAt w A' c' 2 (L.map ivCell)) :
    Calls Try.prog 40 #[.slice A L.length c, .slice A' L.length c'] w fun e w' => e = .returned (.bool true) ∧ Below w.heap.size w w' := by
  have hn : L.length ≤ 9223372036854775807 := by have h1 := hx.1; have h2 := hx.2.1; rw [List.length_map] at h1; omega
  have HX := Lib.hid hx; clear hx
  have HX' := Lib.hid hx'; clear hx'
  go_enter Try.func40, Try.ntmps40
  go_wp2
  go_loopw [5] (fun i wr => Below w.heap.size w wr ∧ ∃ k : Nat, k ≤ L.length ∧ i = .int .i64 k) (fun i _ => L.length - (intOf i).toNat)
  case atStart => exact ⟨Below.refl _ _, 0, by omega, rfl⟩
  case round =>
    obtain ⟨Br, k, hk, rfl⟩ := hrel
    have tr := bold Br
    have sr := Br.size
    by_cases hlt : k < L.length
    · obtain ⟨b, off, x, rfl, hb, hxk, c0, c1⟩ := iv_cells HX.out hlt
      obtain ⟨b', off', x', rfl, hb', hxk', c0', c1'⟩ := iv_cells HX'.out hlt
      rw [hxk] at hxk'
      simp only [Option.some.injEq] at hxk'
      subst hxk'
      clear hxk
      have d0 := (tr b (off + k * 2) hb).trans c0
      have d1 := (tr b (off + k * 2 + 1) hb).trans c1
      have e0 := (tr b' (off' + k * 2) hb').trans c0'
      have e1 := (tr b' (off' + k * 2 + 1) hb').trans c1'
      clear c0 c1 c0' c1' tr
      have lb : b < wr.heap.size := by omega
      have lb' : b' < wr.heap.size := by omega
      have HBr := Lib.hid Br; clear Br
      obtain ⟨x1, x2⟩ := x
      simp only at d0 d1 e0 e1
      have hk0 : (0 : Int) ≤ (k : Int) := Int.natCast_nonneg _
      have hk1 : (k : Int) < (L.length : Int) := by omega
      go_wp2_with fail
      go_region_held3 (fun w' => w'.cell? ⟨b, off + k * 2, none⟩ = some (.int .i64 x1) ∧ w'.cell? ⟨b, off + k * 2 + 1, none⟩ = some (.int .i64 x2) ∧ w'.cell? ⟨b', off' + k * 2, none⟩ = some (.int .i64 x1) ∧ w'.cell? ⟨b', off' + k * 2 + 1, none⟩ = some (.int .i64 x2)) (first | (go_keep; done) | (simp [*, go_sem]; done))
        (first
          | (go_at_call 20; refine (eqInterval_same2 _ _ _).mono ?_; rintro e w3 ⟨rfl, hb3⟩; have B3 : Below wr.heap.size wr w3 := Below.trans (by first | (go_grown; done) | exact bdrewN (Below.refl _ _) _) hb3; have t3 := bold B3; have z3 := B3.size; have f0 := (t3 b (off + k * 2) lb).trans d0; have f1 := (t3 b (off + k * 2 + 1) lb).trans d1; have f2 := (t3 b' (off' + k * 2) lb').trans e0; have f3 := (t3 b' (off' + k * 2 + 1) lb').trans e1; clear hb3 t3))
      go_wp2
      go_roundw
      case rel => exact ⟨HBr.out.trans ((by first | exact B3 | (go_grown; done) | exact bdrewN B3 _ : Below wr.heap.size wr _).mono sr), k + 1, by omega, by go_num⟩
      case measure => simp [intOf]; omega
    · go_wp2
      go_ret
      exact ⟨rfl, Br⟩
set_option maxHeartbeats 1000000 in
theorem markIntervalS_any (A : Option Addr) (c : Nat) (L : List (Int × Int)) (k0 : Int) (lo hi : Nat) (w : World) (hx : ResK w lo hi A c 2 (L.map ivCell)) (hk : 0 ≤ k0) (hk2 : k0 ≤ 1000000000) (hl : L.length ≤ 1000000000) :
    Calls Try.prog 41 #[.slice A L.length c, .int .i64 k0] w fun e w' => e = .returned (.int .i64 (k0 + 2 * L.length)) ∧ ResK w' lo hi A c 2 ((seqV L.length k0).map ivCell) ∧ Chg lo hi w w' := by
  have hc2 := hx.2.1
  have hc1 := hx.1
  rw [List.length_map] at hc1
  rcases hx.2.2 with e0 | ⟨b, off, rfl, h1, h2, h3, hf, hcell⟩
  · have e1 : L = [] := by simpa using e0
    subst e1
    go_enter Try.func41, Try.ntmps41
    go_wp2
    refine Go.wp_loop_rounds 1 ?_
    rw [rounds_succ]
    go_wp2
    go_ret
    exact ⟨ret_int (by simp), ResK.nil _ _ _ _ _ _ hc2, Chg.refl _ _ _⟩
  · have HC := Lib.hid hcell; clear hcell
    go_enter Try.func41, Try.ntmps41
    go_wp2
    go_loopw [1, 5] (fun kk i wr => Chg lo hi w wr ∧ (∀ o, wr.frozen? ⟨b, o, none⟩ = false) ∧ ∃ j : Nat, j ≤ L.length ∧ i = .int .i64 j ∧ kk = .int .i64 (k0 + 2 * j) ∧ (∀ o, o < L.length * 2 → (wr.cell? ⟨b, off + o, none⟩).isSome = true) ∧ ∀ o, o < j * 2 → wr.cell? ⟨b, off + o, none⟩ = some (.int .i64 (k0 + o))) (fun _ i _ => L.length - (intOf i).toNat)
    case atStart =>
      refine ⟨Chg.refl _ _ _, hf, 0, by omega, rfl, vint (by omega), fun o ho => ?_, fun o h => absurd h (by omega)⟩
      have ho2 : o / 2 < L.length := by omega
      have e1 : (L.map ivCell)[o / 2]? = some (ivCell L[o / 2]) := by rw [List.getElem?_map, List.getElem?_eq_getElem ho2]; rfl
      have e2 : off + o = off + (o / 2) * 2 + o % 2 := by omega
      rcases (show o % 2 = 0 ∨ o % 2 = 1 by omega) with h0 | h0
      · rw [e2, h0, HC.out (o / 2) _ 0 _ e1 rfl]; rfl
      · rw [e2, h0, HC.out (o / 2) _ 1 _ e1 rfl]; rfl
    case round =>
      obtain ⟨Cr, hfr, j, hj, rfl, rfl, hp, hd⟩ := hrel
      have HP := Lib.hid hp; have HD := Lib.hid hd; clear hp hd
      by_cases hlt : j < L.length
      · obtain ⟨u0, g0⟩ := Option.isSome_iff_exists.1 (HP.out (j * 2) (by omega))
        obtain ⟨u1, g1⟩ := Option.isSome_iff_exists.1 (HP.out (j * 2 + 1) (by omega))
        have g1' : wr.cell? ⟨b, off + j * 2 + 1, none⟩ = some u1 := by rw [Nat.add_assoc]; exact g1
        have g2 : (wr.setCell ⟨b, off + j * 2, none⟩ (.int .i64 (k0 + 2 * j))).cell? ⟨b, off + j * 2 + 1, none⟩ = some u1 := by
          rw [World.cell?_setCell_other _ _ _ _ (by simp only [ne_eq, Addr.mk.injEq, true_and, and_true]; omega)]; exact g1'
        clear g1
        go_wp2
        go_roundw
        case rel =>
          refine ⟨(Cr.set h1 h2 _).set h1 h2 _, fun o => by rw [World.frozen?_setCell, World.frozen?_setCell]; exact hfr o, j + 1, by omega, by go_num, vint (by omega), fun o ho => ?_, fun o ho => ?_⟩
          · by_cases e : off + o = off + j * 2 + 1
            · rw [e, World.cell?_setCell_same' _ _ _ (by rw [g2]; rfl)]; rfl
            · rw [World.cell?_setCell_other _ _ _ _ (by simp only [ne_eq, Addr.mk.injEq, true_and, and_true]; omega)]
              by_cases e' : off + o = off + j * 2
              · rw [e', World.cell?_setCell_same' _ _ _ (by rw [g0]; rfl)]; rfl
              · rw [World.cell?_setCell_other _ _ _ _ (by simp only [ne_eq, Addr.mk.injEq, true_and, and_true]; omega)]
                exact HP.out o ho
          · by_cases e : off + o = off + j * 2 + 1
            · rw [e, World.cell?_setCell_same' _ _ _ (by rw [g2]; rfl)]; congr 2; omega
            · rw [World.cell?_setCell_other _ _ _ _ (by simp only [ne_eq, Addr.mk.injEq, true_and, and_true]; omega)]
              by_cases e' : off + o = off + j * 2
              · rw [e', World.cell?_setCell_same' _ _ _ (by rw [g0]; rfl)]; congr 2; omega
              · rw [World.cell?_setCell_other _ _ _ _ (by simp only [ne_eq, Addr.mk.injEq, true_and, and_true]; omega)]
                exact HD.out o (by omega)
        case measure => simp [intOf]; omega
      · have hjn : j = L.length := by omega
        subst hjn
        go_wp2
        go_ret
        refine ⟨rfl, ⟨by rw [List.length_map, seqV_len]; exact hc1, hc2, .inr ⟨b, off, rfl, h1, h2, by rw [Cr.size]; exact h3, hfr, fun i e j' u he hu => ?_⟩⟩, Cr⟩
        have hi : i < L.length := by have := (List.getElem?_eq_some_iff.1 he).1; rwa [List.length_map, seqV_len] at this
        rw [List.getElem?_map, seqV_get _ _ _ hi] at he
        simp only [Option.map_some, Option.some.injEq] at he
        subst he
        match j', hu with
        | 0, hu =>
          have := HD.out (i * 2) (by omega)
          simp [ivCell] at hu; subst hu
          rw [Nat.add_zero, this]; congr 2; omega
        | 1, hu =>
          have := HD.out (i * 2 + 1) (by omega)
          simp [ivCell] at hu; subst hu
          rw [Nat.add_assoc, this]; congr 2; omega
        | j' + 2, hu => simp [ivCell] at hu
set_option maxHeartbeats 1000000 in
theorem heldIntervalS_any (A : Option Addr) (c n : Nat) (k0 : Int) (w : World) (hx : KAt w A c 2 ((seqV n k0).map ivCell)) (hk : 0 ≤ k0) (hk2 : k0 ≤ 1000000000) (hl : n ≤ 1000000000) :
    Calls Try.prog 42 #[.slice A n c, .int .i64 k0] w fun e w' => e = .returned (.int .i64 (k0 + 2 * n)) ∧ w = w' := by
  have HX := Lib.hid hx; clear hx
  go_enter Try.func42, Try.ntmps42
  go_wp2
  go_loop [1, 5] (fun kk i => ∃ j : Nat, j ≤ n ∧ i = .int .i64 j ∧ kk = .int .i64 (k0 + 2 * j)) (fun _ i => n - (intOf i).toNat)
  case atStart => exact ⟨0, by omega, rfl, vint (by omega)⟩
  case round =>
    obtain ⟨j, hj, rfl, rfl⟩ := hrel
    by_cases hlt : j < n
    · obtain ⟨b, off, x, rfl, hb, hxk, c0, c1⟩ := iv_cells HX.out (k := j) (by rw [seqV_len]; exact hlt)
      rw [seqV_get _ _ _ hlt] at hxk
      injection hxk with hxk
      subst hxk
      simp only at c0 c1
      go_wp2
      go_round
      case rel => exact ⟨j + 1, by omega, by go_num, vint (by omega)⟩
      case measure => simp [intOf]; omega
    · have hjn : j = n := by omega
      subst hjn
      go_wp2
      go_ret
      exact ⟨rfl, rfl⟩
end Go.Proofs.Ytlilfjbhilkngaa
