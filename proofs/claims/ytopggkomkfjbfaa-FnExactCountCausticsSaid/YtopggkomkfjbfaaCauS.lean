/- How often the ranges of a fan change between growing and falling, by the reference. -/
import Derived.Test.YtopggkomkfjbfaaFanV
import Derived.BigRegion
namespace Go.Proofs.Ytopggkomkfjbfaa
set_option linter.unusedSimpArgs false
set_option linter.unusedVariables false
open Go.RowKit

/-- whether a pair grows (1), falls (-1) or neither -/
def trd (x y : Rs) : Int := if x.hi < y.lo then 1 else if y.hi < x.lo then -1 else 0
theorem trd_three (x y : Rs) : trd x y = 0 ∨ trd x y = 1 ∨ trd x y = -1 := by unfold trd; split; · simp
                                                                              · split <;> simp
def stC (s : Int × Int) (same : Bool) (t : Int) : Int × Int := if same then (if t = 0 then s else ((if s.2 = -t then s.1 + 1 else s.1), t)) else (s.1, 0)
def ccTo (ds ss : List Int) (src n lo : Int) (dn : Bool) (st : Nat) : Nat → Int × Int
  | 0 => (0, 0)
  | k + 1 => stC (ccTo ds ss src n lo dn st k) (sameN ds ss src (mdC (lo + (k : Int)) n) (mdS (lo + (k : Int)) n dn) (mdH (lo + (k : Int)) n) (mdC (lo + ((k : Int) + 1)) n) (mdS (lo + ((k : Int) + 1)) n dn) (mdH (lo + ((k : Int) + 1)) n) st) (trd (rwAt ds ss src (mdC (lo + (k : Int)) n) (mdS (lo + (k : Int)) n dn) (mdH (lo + (k : Int)) n) st) (rwAt ds ss src (mdC (lo + ((k : Int) + 1)) n) (mdS (lo + ((k : Int) + 1)) n dn) (mdH (lo + ((k : Int) + 1)) n) st))
theorem cc_bd (ds ss : List Int) (src n lo : Int) (dn : Bool) (st : Nat) : ∀ k : Nat, 0 ≤ (ccTo ds ss src n lo dn st k).1 ∧ (ccTo ds ss src n lo dn st k).1 ≤ k ∧ -1 ≤ (ccTo ds ss src n lo dn st k).2 ∧ (ccTo ds ss src n lo dn st k).2 ≤ 1 := by
  intro k
  induction k with
  | zero => simp [ccTo]
  | succ k ih =>
    have t := trd_three (rwAt ds ss src (mdC (lo + (k : Int)) n) (mdS (lo + (k : Int)) n dn) (mdH (lo + (k : Int)) n) st) (rwAt ds ss src (mdC (lo + ((k : Int) + 1)) n) (mdS (lo + ((k : Int) + 1)) n dn) (mdH (lo + ((k : Int) + 1)) n) st)
    rw [ccTo]
    unfold stC
    generalize trd (rwAt ds ss src (mdC (lo + (k : Int)) n) (mdS (lo + (k : Int)) n dn) (mdH (lo + (k : Int)) n) st) (rwAt ds ss src (mdC (lo + ((k : Int) + 1)) n) (mdS (lo + ((k : Int) + 1)) n dn) (mdH (lo + ((k : Int) + 1)) n) st) = T at *
    generalize ccTo ds ss src n lo dn st k = S at *
    split
    · split
      · omega
      · split <;> (dsimp only; omega)
    · dsimp only; omega
/-- the program's way of saying it -/
theorem stC_mul {s : Int × Int} {t nx : Int} (h1 : -1 ≤ s.2) (h2 : s.2 ≤ 1) (same : Bool) (ht : t = 0 ∨ t = 1 ∨ t = -1) (hn : nx = if same then (if t = 0 then s.2 else t) else 0) : stC s same t = ((if s.2 * nx < 0 then s.1 + 1 else s.1), nx) := by
  obtain ⟨a, b⟩ := s
  dsimp only at h1 h2 hn ⊢
  have hb : b = -1 ∨ b = 0 ∨ b = 1 := by omega
  unfold stC
  cases same
  · simp at hn; subst hn; simp
  · rcases ht with rfl | rfl | rfl <;> rcases hb with rfl | rfl | rfl <;> simp at hn <;> subst hn <;> simp
@[irreducible] def ccV (ds ss : List Int) (src n lo hi : Int) (dn : Bool) (st : Int) : Int := if faE ds ss src n lo hi st = 0 then (ccTo ds ss src n lo dn st.toNat (hi - lo).toNat).1 else 0
theorem cc_ok {ds ss : List Int} {src n lo hi : Int} {m : Nat} (dn : Bool) (h : faE ds ss src n lo hi m = 0) : ccV ds ss src n lo hi dn m = (ccTo ds ss src n lo dn m (hi - lo).toNat).1 := by unfold ccV; rw [if_pos h, Int.toNat_natCast]
theorem cc_no {ds ss : List Int} {src n lo hi st : Int} (dn : Bool) (h : faE ds ss src n lo hi st ≠ 0) : ccV ds ss src n lo hi dn st = 0 := by unfold ccV; rw [if_neg h]
set_option maxHeartbeats 4000000 in
theorem l08Trend_any (x y : Rs) (s : Bool) (lo hi : Int) (w : World) :
    Calls Try.prog 64 #[cellV x y s lo hi] w fun e w' => e = .returned (.int .i64 (trd x y)) ∧ Below w.heap.size w w' := by
  obtain ⟨xk, xd, xl, xh, rfl⟩ := rs_cell x
  obtain ⟨yk, yd, yl, yh, rfl⟩ := rs_cell y
  have HE : trd ⟨xk, xd, xl, xh⟩ ⟨yk, yd, yl, yh⟩ = if xh < yl then 1 else if yh < xl then -1 else 0 := rfl
  generalize trd ⟨xk, xd, xl, xh⟩ ⟨yk, yd, yl, yh⟩ = V at HE ⊢
  have HE_ := Lib.hid HE
  clear HE
  have HE := Lib.hid HE_.out; clear HE_
  by_cases p1 : xh < yl <;> by_cases p2 : yh < xl
  all_goals
    go_enter Try.func64, Try.ntmps64
    go_wp2_with fail
    go_region
  all_goals go_wp2
  all_goals go_ret
  all_goals exact ⟨ret_int (by rw [HE.out]; (repeat' split) <;> omega), by go_grown⟩
set_option maxRecDepth 4000 in
set_option maxHeartbeats 4000000 in
theorem specCaus_any (A1 A2 : Option Addr) (c1 c2 : Nat) (ds ss : List Int) (src n lo hi : Int) (dn : Bool) (st : Int) (w : World) (h : ProfAt w A1 c1 A2 c2 ds ss) :
    Calls Try.prog 23 #[profV A1 ds.length c1 A2 ss.length c2, .int .i64 src, .int .i64 n, .int .i64 lo, .int .i64 hi, .bool dn, .int .i64 st] w fun e w' => e = .returned (.tuple #[.int .i64 (ccV ds ss src n lo hi dn st), .int .i64 (faE ds ss src n lo hi st)]) ∧ Below w.heap.size w w' := by
  by_cases hc : faE ds ss src n lo hi st = 0
  · obtain ⟨hp, hf, u0, u1, m, rfl, hm⟩ := fa_zero hc
    obtain ⟨K, hK⟩ : ∃ K : Nat, (hi - lo).toNat = K := ⟨_, rfl⟩
    have kl := (fan_ok hf).l1
    have eV := cc_ok dn hc
    rw [hK] at eV
    rw [eV, hc]
    have LC := Lib.hid (fun w h => l08Cells_ok A1 A2 c1 c2 ds ss src n lo hi dn m K w h hp hf u0 u1 hm (by omega) (by omega))
    have hK3 : K ≤ 1000 := by have := fan_ok hf; have := this.n1; have := (fan_ok hf).l0; have := (fan_ok hf).h1; omega
    have H := Lib.hid h; clear h hp hf hc eV hK
    go_enter Try.func23, Try.ntmps23
    go_wp2_with fail
    refine (LC.out _ (H.out.below (B := w.heap.size) (by first | exact Below.refl _ _ | (go_grown; done) | exact bdrewN (by go_grown) _) (Nat.le_refl _))).mono ?_
    rintro e w1 ⟨⟨Ac, cc, rfl, RC⟩, hb1⟩
    have VC := Lib.hid RC.at; clear RC
    obtain ⟨B1, hz1, q1, s1, t1, x1, y1, z1⟩ := bkeep (w := w) [w.heap.size] (by first | (simp; done) | (simp; omega)) (by first | (go_grown; done) | exact bdrewN (by go_grown) _) hb1; (try simp at hz1); clear hb1
    have HB1 := Lib.hid B1; clear B1 q1 s1 t1 x1 y1 z1
    go_wp2
    go_loopw [18, 19, 20] (fun c l i wr => Below w1.heap.size w1 wr ∧ ∃ (k : Nat) (cn la : Int), k ≤ K ∧ i = .int .i64 k ∧ Hid (ccTo ds ss src n lo dn m k = (cn, la)) ∧ c = .int .i64 cn ∧ l = .int .i64 la) (fun _ _ i _ => K - (intOf i).toNat)
    case atStart => exact ⟨by first | exact Below.refl _ _ | go_grown, 0, 0, 0, by omega, rfl, Lib.hid rfl, rfl, rfl⟩
    case round =>
      obtain ⟨Br, k, cn, la, hk, rfl, hcc, rfl, rfl⟩ := hrel
      have bd := cc_bd ds ss src n lo dn m k
      rw [hcc.out] at bd
      dsimp only at bd
      obtain ⟨bd1, bd2, bd3, bd4⟩ := bd
      have sr := Br.size
      have HBr := Lib.hid Br
      have KC := Lib.hid (VC.out.below Br (Nat.le_refl _))
      clear Br
      by_cases hlt : k < K
      · obtain ⟨b, off, rfl, hb, hc⟩ := fc_cells KC.out hlt
        have hE : fcE ds ss src n lo dn m k = cellE (rwAt ds ss src (mdC (lo + (k : Int)) n) (mdS (lo + (k : Int)) n dn) (mdH (lo + (k : Int)) n) m) (rwAt ds ss src (mdC (lo + ((k : Int) + 1)) n) (mdS (lo + ((k : Int) + 1)) n dn) (mdH (lo + ((k : Int) + 1)) n) m) (sameN ds ss src (mdC (lo + (k : Int)) n) (mdS (lo + (k : Int)) n dn) (mdH (lo + (k : Int)) n) (mdC (lo + ((k : Int) + 1)) n) (mdS (lo + ((k : Int) + 1)) n dn) (mdH (lo + ((k : Int) + 1)) n) m) (clLo ds ss src (mdC (lo + (k : Int)) n) (mdS (lo + (k : Int)) n dn) (mdH (lo + (k : Int)) n) (mdC (lo + ((k : Int) + 1)) n) (mdS (lo + ((k : Int) + 1)) n dn) (mdH (lo + ((k : Int) + 1)) n) m) (clHi ds ss src (mdC (lo + (k : Int)) n) (mdS (lo + (k : Int)) n dn) (mdH (lo + (k : Int)) n) (mdC (lo + ((k : Int) + 1)) n) (mdS (lo + ((k : Int) + 1)) n dn) (mdH (lo + ((k : Int) + 1)) n) m) := rfl
        have hS : ccTo ds ss src n lo dn m (k + 1) = stC (ccTo ds ss src n lo dn m k) (sameN ds ss src (mdC (lo + (k : Int)) n) (mdS (lo + (k : Int)) n dn) (mdH (lo + (k : Int)) n) (mdC (lo + ((k : Int) + 1)) n) (mdS (lo + ((k : Int) + 1)) n dn) (mdH (lo + ((k : Int) + 1)) n) m) (trd (rwAt ds ss src (mdC (lo + (k : Int)) n) (mdS (lo + (k : Int)) n dn) (mdH (lo + (k : Int)) n) m) (rwAt ds ss src (mdC (lo + ((k : Int) + 1)) n) (mdS (lo + ((k : Int) + 1)) n dn) (mdH (lo + ((k : Int) + 1)) n) m)) := rfl
        obtain ⟨xk, xd, xl, xh, hx⟩ := rs_cell (rwAt ds ss src (mdC (lo + (k : Int)) n) (mdS (lo + (k : Int)) n dn) (mdH (lo + (k : Int)) n) m)
        obtain ⟨yk, yd, yl, yh, hy_⟩ := rs_cell (rwAt ds ss src (mdC (lo + ((k : Int) + 1)) n) (mdS (lo + ((k : Int) + 1)) n dn) (mdH (lo + ((k : Int) + 1)) n) m)
        obtain ⟨sm, hsm⟩ : ∃ x, sameN ds ss src (mdC (lo + (k : Int)) n) (mdS (lo + (k : Int)) n dn) (mdH (lo + (k : Int)) n) (mdC (lo + ((k : Int) + 1)) n) (mdS (lo + ((k : Int) + 1)) n dn) (mdH (lo + ((k : Int) + 1)) n) m = x := ⟨_, rfl⟩
        obtain ⟨sl, hsl⟩ : ∃ x, clLo ds ss src (mdC (lo + (k : Int)) n) (mdS (lo + (k : Int)) n dn) (mdH (lo + (k : Int)) n) (mdC (lo + ((k : Int) + 1)) n) (mdS (lo + ((k : Int) + 1)) n dn) (mdH (lo + ((k : Int) + 1)) n) m = x := ⟨_, rfl⟩
        obtain ⟨sh, hsh⟩ : ∃ x, clHi ds ss src (mdC (lo + (k : Int)) n) (mdS (lo + (k : Int)) n dn) (mdH (lo + (k : Int)) n) (mdC (lo + ((k : Int) + 1)) n) (mdS (lo + ((k : Int) + 1)) n dn) (mdH (lo + ((k : Int) + 1)) n) m = x := ⟨_, rfl⟩
        rw [hx, hy_, hsm, hsl, hsh] at hE
        rw [hx, hy_, hsm, hcc.out] at hS
        rw [hE] at hc
        have q0 := hc 0 _ rfl
        have q1 := hc 1 _ rfl
        have q2 := hc 2 _ rfl
        have q3 := hc 3 _ rfl
        have q4 := hc 4 _ rfl
        have q5 := hc 5 _ rfl
        have q6 := hc 6 _ rfl
        have q7 := hc 7 _ rfl
        have q8 := hc 8 _ rfl
        have q9 := hc 9 _ rfl
        have q10 := hc 10 _ rfl
        rw [Nat.add_zero] at q0
        dsimp only at q0 q1 q2 q3 q4 q5 q6 q7
        have t3 := trd_three ⟨xk, xd, xl, xh⟩ ⟨yk, yd, yl, yh⟩
        obtain ⟨t, ht⟩ : ∃ x, trd ⟨xk, xd, xl, xh⟩ ⟨yk, yd, yl, yh⟩ = x := ⟨_, rfl⟩
        rw [ht] at hS t3
        have LT := Lib.hid (show ∀ w, Calls Try.prog 64 #[cellV ⟨xk, xd, xl, xh⟩ ⟨yk, yd, yl, yh⟩ sm sl sh] w fun e w' => e = .returned (.int .i64 t) ∧ Below w.heap.size w w' from fun w => by have q := l08Trend_any ⟨xk, xd, xl, xh⟩ ⟨yk, yd, yl, yh⟩ sm sl sh w; rw [ht] at q; exact q)
        have HS := Lib.hid hS; clear hS hE hx hy_ hsm hsl hsh ht hc
        have gk2 : (k : Int) < (K : Int) := by omega
        have gk0 : (0 : Int) ≤ k := by omega
        rcases sm with _ | _
        · have HN : Hid (ccTo ds ss src n lo dn m (k + 1) = (cn, 0)) := Lib.hid (by rw [HS.out]; unfold stC; simp)
          go_wp2_with (go_at_call 64; refine (LT.out _).mono ?_; rintro e w8 ⟨rfl, hb8⟩; obtain ⟨B8, hz8, q8, s8, t8, x8, y8, z8⟩ := bkeep (w := wr) [b] (by first | (simp; done) | (simp; omega)) (by first | (go_grown; done) | exact bdrewN (by go_grown) _) hb8; (try simp at hz8); clear hb8)
          go_roundw
          case rel => exact ⟨HBr.out.trans (Below.mono (show Below wr.heap.size wr _ by first | with_reducible exact B8 | (go_grown; done) | exact bdrewN (by go_grown) _) sr), k + 1, cn, 0, by omega, by go_num, Lib.hid HN.out, rfl, rfl⟩
          case measure => simp [intOf]; omega
        · by_cases h0 : t = 0
          · subst h0
            have HN : Hid (ccTo ds ss src n lo dn m (k + 1) = (cn, la)) := Lib.hid (by rw [HS.out]; unfold stC; simp)
            go_wp2_with (go_at_call 64; refine (LT.out _).mono ?_; rintro e w8 ⟨rfl, hb8⟩; obtain ⟨B8, hz8, q8, s8, t8, x8, y8, z8⟩ := bkeep (w := wr) [b] (by first | (simp; done) | (simp; omega)) (by first | (go_grown; done) | exact bdrewN (by go_grown) _) hb8; (try simp at hz8); clear hb8)
            go_roundw
            case rel => exact ⟨HBr.out.trans (Below.mono (show Below wr.heap.size wr _ by first | with_reducible exact B8 | (go_grown; done) | exact bdrewN (by go_grown) _) sr), k + 1, cn, la, by omega, by go_num, Lib.hid HN.out, rfl, rfl⟩
            case measure => simp [intOf]; omega
          · have h0b : (t != 0) = true := by simpa using h0
            have h0c : (t == 0) = false := beq_eq_false_iff_ne.2 h0
            by_cases hl : la = -t
            · have hlb : (la == -t) = true := by simpa using hl
              have HN : Hid (ccTo ds ss src n lo dn m (k + 1) = ((cn + 1), t)) := Lib.hid (by rw [HS.out]; unfold stC; simp [h0, hl])
              go_wp2_with (go_at_call 64; refine (LT.out _).mono ?_; rintro e w8 ⟨rfl, hb8⟩; obtain ⟨B8, hz8, q8, s8, t8, x8, y8, z8⟩ := bkeep (w := wr) [b] (by first | (simp; done) | (simp; omega)) (by first | (go_grown; done) | exact bdrewN (by go_grown) _) hb8; (try simp at hz8); clear hb8)
              go_roundw
              case rel => exact ⟨HBr.out.trans (Below.mono (show Below wr.heap.size wr _ by first | with_reducible exact B8 | (go_grown; done) | exact bdrewN (by go_grown) _) sr), k + 1, (cn + 1), t, by omega, by go_num, Lib.hid HN.out, rfl, rfl⟩
              case measure => simp [intOf]; omega
            · have hlb : (la == -t) = false := beq_eq_false_iff_ne.2 hl
              have HN : Hid (ccTo ds ss src n lo dn m (k + 1) = (cn, t)) := Lib.hid (by rw [HS.out]; unfold stC; simp [h0, hl])
              go_wp2_with (go_at_call 64; refine (LT.out _).mono ?_; rintro e w8 ⟨rfl, hb8⟩; obtain ⟨B8, hz8, q8, s8, t8, x8, y8, z8⟩ := bkeep (w := wr) [b] (by first | (simp; done) | (simp; omega)) (by first | (go_grown; done) | exact bdrewN (by go_grown) _) hb8; (try simp at hz8); clear hb8)
              go_roundw
              case rel => exact ⟨HBr.out.trans (Below.mono (show Below wr.heap.size wr _ by first | with_reducible exact B8 | (go_grown; done) | exact bdrewN (by go_grown) _) sr), k + 1, cn, t, by omega, by go_num, Lib.hid HN.out, rfl, rfl⟩
              case measure => simp [intOf]; omega
      · obtain rfl : k = K := by omega
        go_wp2
        go_ret2
        exact ⟨by rw [hcc.out] <;> rfl, HB1.out.trans (HBr.out.mono (by omega))⟩
  · have e := cc_no dn hc
    have hE2 : (faE ds ss src n lo hi st != 0) = true := by simpa using hc
    have EE := Lib.hid e; have HC := Lib.hid hc; have H := Lib.hid h; clear e hc h
    go_enter Try.func23, Try.ntmps23
    go_wp2_with (go_at_call 63; refine (l08Cells_bad _ _ _ _ _ _ _ _ _ _ _ _ _ (H.out.below (B := w.heap.size) (by first | exact Below.refl _ _ | (go_grown; done) | exact bdrewN (by go_grown) _) (Nat.le_refl _)) HC.out).mono ?_; rintro e w1 ⟨rfl, hb1⟩; obtain ⟨B1, hz1, q1, s1, t1, x1, y1, z1⟩ := bkeep (w := w) [w.heap.size] (by first | (simp; done) | (simp; omega)) (by first | (go_grown; done) | exact bdrewN (by go_grown) _) hb1; (try simp at hz1); clear hb1)
    go_ret2
    exact ⟨by rw [EE.out] <;> rfl, (by first | with_reducible exact B1 | (go_grown; done) | with_reducible exact bdrewN B1 _ | (go_grown <;> first | with_reducible exact bdrewN B1 _ | with_reducible exact B1))⟩
end Go.Proofs.Ytopggkomkfjbfaa
