/- Texts in one: CauS, Has, OcP, CauT, CauI, CauLaw, OcTop. -/
import Derived.Test.YtopggkomkfjbfaaOcB
import Derived.BigRegion
import Derived.Test.YtopggkomkfjbfaaProf2
import Derived.Test.YtopggkomkfjbfaaApp
import Derived.Deep.RegionHeld3
import Derived.IntWalk
import Derived.Test.YtopggkomkfjbfaaTrB
import Derived.Deep.QuietTactic
import Derived.BigQuiet
namespace Go.Proofs.Ytopggkomkfjbfaa
section
set_option linter.unusedSimpArgs false
set_option linter.unusedVariables false
open Go.RowKit

/-- whether a pair grows (1), falls (-1) or neither -/
def trd (x y : Rs) : Int := if x.hi < y.lo then 1 else if y.hi < x.lo then -1 else 0
theorem trd_three (x y : Rs) : trd x y = 0 ∨ trd x y = 1 ∨ trd x y = -1 := by unfold trd; split; · simp
                                                                              · split <;> simp
def stC (s : Int × Int) (same : Bool) (t : Int) : Int × Int := if same then (if t = 0 then s else ((if s.2 = -t then s.1 + 1 else s.1), t)) else (s.1, 0)
def ccTo (ds ss : List Int) (src n lo : Int) (dn : Bool) (st : Nat) : Nat → Int × Int
  | 0 => (0, 0)
  | k + 1 => stC (ccTo ds ss src n lo dn st k) (sameN ds ss src (mdC (lo + (k : Int)) n) (mdS (lo + (k : Int)) n dn) (mdH (lo + (k : Int)) n) (mdC (lo + ((k : Int) + 1)) n) (mdS (lo + ((k : Int) + 1)) n dn) (mdH (lo + ((k : Int) + 1)) n) st) (trd (rwAt ds ss src (mdC (lo + (k : Int)) n) (mdS (lo + (k : Int)) n dn) (mdH (lo + (k : Int)) n) st) (rwAt ds ss src (mdC (lo + ((k : Int) + 1)) n) (mdS (lo + ((k : Int) + 1)) n dn) (mdH (lo + ((k : Int) + 1)) n) st))
theorem cc_bd (ds ss : List Int) (src n lo : Int) (dn : Bool) (st : Nat) : ∀ k : Nat, 0 ≤ (ccTo ds ss src n lo dn st k).1 ∧ (ccTo ds ss src n lo dn st k).1 ≤ k ∧ -1 ≤ (ccTo ds ss src n lo dn st k).2 ∧ (ccTo ds ss src n lo dn st k).2 ≤ 1 := by
  intro k
  induction k with
  | zero => simp [ccTo]
  | succ k ih =>
    have t := trd_three (rwAt ds ss src (mdC (lo + (k : Int)) n) (mdS (lo + (k : Int)) n dn) (mdH (lo + (k : Int)) n) st) (rwAt ds ss src (mdC (lo + ((k : Int) + 1)) n) (mdS (lo + ((k : Int) + 1)) n dn) (mdH (lo + ((k : Int) + 1)) n) st)
    rw [ccTo]
    unfold stC
    generalize trd (rwAt ds ss src (mdC (lo + (k : Int)) n) (mdS (lo + (k : Int)) n dn) (mdH (lo + (k : Int)) n) st) (rwAt ds ss src (mdC (lo + ((k : Int) + 1)) n) (mdS (lo + ((k : Int) + 1)) n dn) (mdH (lo + ((k : Int) + 1)) n) st) = T at *
    generalize ccTo ds ss src n lo dn st k = S at *
    split
    · split
      · omega
      · split <;> (dsimp only; omega)
    · dsimp only; omega
/-- the program's way of saying it -/
theorem stC_mul {s : Int × Int} {t nx : Int} (h1 : -1 ≤ s.2) (h2 : s.2 ≤ 1) (same : Bool) (ht : t = 0 ∨ t = 1 ∨ t = -1) (hn : nx = if same then (if t = 0 then s.2 else t) else 0) : stC s same t = ((if s.2 * nx < 0 then s.1 + 1 else s.1), nx) := by
  obtain ⟨a, b⟩ := s
  dsimp only at h1 h2 hn ⊢
  have hb : b = -1 ∨ b = 0 ∨ b = 1 := by omega
  unfold stC
  cases same
  · simp at hn; subst hn; simp
  · rcases ht with rfl | rfl | rfl <;> rcases hb with rfl | rfl | rfl <;> simp at hn <;> subst hn <;> simp
@[irreducible] def ccV (ds ss : List Int) (src n lo hi : Int) (dn : Bool) (st : Int) : Int := if faE ds ss src n lo hi st = 0 then (ccTo ds ss src n lo dn st.toNat (hi - lo).toNat).1 else 0
theorem cc_ok {ds ss : List Int} {src n lo hi : Int} {m : Nat} (dn : Bool) (h : faE ds ss src n lo hi m = 0) : ccV ds ss src n lo hi dn m = (ccTo ds ss src n lo dn m (hi - lo).toNat).1 := by unfold ccV; rw [if_pos h, Int.toNat_natCast]
theorem cc_no {ds ss : List Int} {src n lo hi st : Int} (dn : Bool) (h : faE ds ss src n lo hi st ≠ 0) : ccV ds ss src n lo hi dn st = 0 := by unfold ccV; rw [if_neg h]
set_option maxHeartbeats 4000000 in
theorem l08Trend_any (x y : Rs) (s : Bool) (lo hi : Int) (w : World) :
    Calls Try.prog 64 #[cellV x y s lo hi] w fun e w' => e = .returned (.int .i64 (trd x y)) ∧ Below w.heap.size w w' := by
  obtain ⟨xk, xd, xl, xh, rfl⟩ := rs_cell x
  obtain ⟨yk, yd, yl, yh, rfl⟩ := rs_cell y
  have HE : trd ⟨xk, xd, xl, xh⟩ ⟨yk, yd, yl, yh⟩ = if xh < yl then 1 else if yh < xl then -1 else 0 := rfl
  generalize trd ⟨xk, xd, xl, xh⟩ ⟨yk, yd, yl, yh⟩ = V at HE ⊢
  have HE_ := Lib.hid HE
  clear HE
  have HE := Lib.hid HE_.out; clear HE_
  by_cases p1 : xh < yl <;> by_cases p2 : yh < xl
  all_goals
    go_enter Try.func64, Try.ntmps64
    go_wp2_with fail
    go_region
  all_goals go_wp2
  all_goals go_ret
  all_goals exact ⟨ret_int (by rw [HE.out]; (repeat' split) <;> omega), by go_grown⟩
set_option maxRecDepth 4000 in
set_option maxHeartbeats 4000000 in
theorem specCaus_any (A1 A2 : Option Addr) (c1 c2 : Nat) (ds ss : List Int) (src n lo hi : Int) (dn : Bool) (st : Int) (w : World) (h : ProfAt w A1 c1 A2 c2 ds ss) :
    Calls Try.prog 23 #[profV A1 ds.length c1 A2 ss.length c2, .int .i64 src, .int .i64 n, .int .i64 lo, .int .i64 hi, .bool dn, .int .i64 st] w fun e w' => e = .returned (.tuple #[.int .i64 (ccV ds ss src n lo hi dn st), .int .i64 (faE ds ss src n lo hi st)]) ∧ Below w.heap.size w w' := by
  by_cases hc : faE ds ss src n lo hi st = 0
  · obtain ⟨hp, hf, u0, u1, m, rfl, hm⟩ := fa_zero hc
    obtain ⟨K, hK⟩ : ∃ K : Nat, (hi - lo).toNat = K := ⟨_, rfl⟩
    have kl := (fan_ok hf).l1
    have eV := cc_ok dn hc
    rw [hK] at eV
    rw [eV, hc]
    have LC := Lib.hid (fun w h => l08Cells_ok A1 A2 c1 c2 ds ss src n lo hi dn m K w h hp hf u0 u1 hm (by omega) (by omega))
    have hK3 : K ≤ 1000 := by have := fan_ok hf; have := this.n1; have := (fan_ok hf).l0; have := (fan_ok hf).h1; omega
    have H := Lib.hid h; clear h hp hf hc eV hK
    go_enter Try.func23, Try.ntmps23
    go_wp2_with fail
    refine (LC.out _ (H.out.below (B := w.heap.size) (by first | exact Below.refl _ _ | (go_grown; done) | exact bdrewN (by go_grown) _) (Nat.le_refl _))).mono ?_
    rintro e w1 ⟨⟨Ac, cc, rfl, RC⟩, hb1⟩
    have VC := Lib.hid RC.at; clear RC
    obtain ⟨B1, hz1, q1, s1, t1, x1, y1, z1⟩ := bkeep (w := w) [w.heap.size] (by first | (simp; done) | (simp; omega)) (by first | (go_grown; done) | exact bdrewN (by go_grown) _) hb1; (try simp at hz1); clear hb1
    have HB1 := Lib.hid B1; clear B1 q1 s1 t1 x1 y1 z1
    go_wp2
    go_loopw [18, 19, 20] (fun c l i wr => Below w1.heap.size w1 wr ∧ ∃ (k : Nat) (cn la : Int), k ≤ K ∧ i = .int .i64 k ∧ Hid (ccTo ds ss src n lo dn m k = (cn, la)) ∧ c = .int .i64 cn ∧ l = .int .i64 la) (fun _ _ i _ => K - (intOf i).toNat)
    case atStart => exact ⟨by first | exact Below.refl _ _ | go_grown, 0, 0, 0, by omega, rfl, Lib.hid rfl, rfl, rfl⟩
    case round =>
      obtain ⟨Br, k, cn, la, hk, rfl, hcc, rfl, rfl⟩ := hrel
      have bd := cc_bd ds ss src n lo dn m k
      rw [hcc.out] at bd
      dsimp only at bd
      obtain ⟨bd1, bd2, bd3, bd4⟩ := bd
      have sr := Br.size
      have HBr := Lib.hid Br
      have KC := Lib.hid (VC.out.below Br (Nat.le_refl _))
      clear Br
      by_cases hlt : k < K
      · obtain ⟨b, off, rfl, hb, hc⟩ := fc_cells KC.out hlt
        have hE : fcE ds ss src n lo dn m k = cellE (rwAt ds ss src (mdC (lo + (k : Int)) n) (mdS (lo + (k : Int)) n dn) (mdH (lo + (k : Int)) n) m) (rwAt ds ss src (mdC (lo + ((k : Int) + 1)) n) (mdS (lo + ((k : Int) + 1)) n dn) (mdH (lo + ((k : Int) + 1)) n) m) (sameN ds ss src (mdC (lo + (k : Int)) n) (mdS (lo + (k : Int)) n dn) (mdH (lo + (k : Int)) n) (mdC (lo + ((k : Int) + 1)) n) (mdS (lo + ((k : Int) + 1)) n dn) (mdH (lo + ((k : Int) + 1)) n) m) (clLo ds ss src (mdC (lo + (k : Int)) n) (mdS (lo + (k : Int)) n dn) (mdH (lo + (k : Int)) n) (mdC (lo + ((k : Int) + 1)) n) (mdS (lo + ((k : Int) + 1)) n dn) (mdH (lo + ((k : Int) + 1)) n) m) (clHi ds ss src (mdC (lo + (k : Int)) n) (mdS (lo + (k : Int)) n dn) (mdH (lo + (k : Int)) n) (mdC (lo + ((k : Int) + 1)) n) (mdS (lo + ((k : Int) + 1)) n dn) (mdH (lo + ((k : Int) + 1)) n) m) := rfl
        have hS : ccTo ds ss src n lo dn m (k + 1) = stC (ccTo ds ss src n lo dn m k) (sameN ds ss src (mdC (lo + (k : Int)) n) (mdS (lo + (k : Int)) n dn) (mdH (lo + (k : Int)) n) (mdC (lo + ((k : Int) + 1)) n) (mdS (lo + ((k : Int) + 1)) n dn) (mdH (lo + ((k : Int) + 1)) n) m) (trd (rwAt ds ss src (mdC (lo + (k : Int)) n) (mdS (lo + (k : Int)) n dn) (mdH (lo + (k : Int)) n) m) (rwAt ds ss src (mdC (lo + ((k : Int) + 1)) n) (mdS (lo + ((k : Int) + 1)) n dn) (mdH (lo + ((k : Int) + 1)) n) m)) := rfl
        obtain ⟨xk, xd, xl, xh, hx⟩ := rs_cell (rwAt ds ss src (mdC (lo + (k : Int)) n) (mdS (lo + (k : Int)) n dn) (mdH (lo + (k : Int)) n) m)
        obtain ⟨yk, yd, yl, yh, hy_⟩ := rs_cell (rwAt ds ss src (mdC (lo + ((k : Int) + 1)) n) (mdS (lo + ((k : Int) + 1)) n dn) (mdH (lo + ((k : Int) + 1)) n) m)
        obtain ⟨sm, hsm⟩ : ∃ x, sameN ds ss src (mdC (lo + (k : Int)) n) (mdS (lo + (k : Int)) n dn) (mdH (lo + (k : Int)) n) (mdC (lo + ((k : Int) + 1)) n) (mdS (lo + ((k : Int) + 1)) n dn) (mdH (lo + ((k : Int) + 1)) n) m = x := ⟨_, rfl⟩
        obtain ⟨sl, hsl⟩ : ∃ x, clLo ds ss src (mdC (lo + (k : Int)) n) (mdS (lo + (k : Int)) n dn) (mdH (lo + (k : Int)) n) (mdC (lo + ((k : Int) + 1)) n) (mdS (lo + ((k : Int) + 1)) n dn) (mdH (lo + ((k : Int) + 1)) n) m = x := ⟨_, rfl⟩
        obtain ⟨sh, hsh⟩ : ∃ x, clHi ds ss src (mdC (lo + (k : Int)) n) (mdS (lo + (k : Int)) n dn) (mdH (lo + (k : Int)) n) (mdC (lo + ((k : Int) + 1)) n) (mdS (lo + ((k : Int) + 1)) n dn) (mdH (lo + ((k : Int) + 1)) n) m = x := ⟨_, rfl⟩
        rw [hx, hy_, hsm, hsl, hsh] at hE
        rw [hx, hy_, hsm, hcc.out] at hS
        rw [hE] at hc
        have q0 := hc 0 _ rfl
        have q1 := hc 1 _ rfl
        have q2 := hc 2 _ rfl
        have q3 := hc 3 _ rfl
        have q4 := hc 4 _ rfl
        have q5 := hc 5 _ rfl
        have q6 := hc 6 _ rfl
        have q7 := hc 7 _ rfl
        have q8 := hc 8 _ rfl
        have q9 := hc 9 _ rfl
        have q10 := hc 10 _ rfl
        rw [Nat.add_zero] at q0
        dsimp only at q0 q1 q2 q3 q4 q5 q6 q7
        have t3 := trd_three ⟨xk, xd, xl, xh⟩ ⟨yk, yd, yl, yh⟩
        obtain ⟨t, ht⟩ : ∃ x, trd ⟨xk, xd, xl, xh⟩ ⟨yk, yd, yl, yh⟩ = x := ⟨_, rfl⟩
        rw [ht] at hS t3
        have LT := Lib.hid (show ∀ w, Calls Try.prog 64 #[cellV ⟨xk, xd, xl, xh⟩ ⟨yk, yd, yl, yh⟩ sm sl sh] w fun e w' => e = .returned (.int .i64 t) ∧ Below w.heap.size w w' from fun w => by have q := l08Trend_any ⟨xk, xd, xl, xh⟩ ⟨yk, yd, yl, yh⟩ sm sl sh w; rw [ht] at q; exact q)
        have HS := Lib.hid hS; clear hS hE hx hy_ hsm hsl hsh ht hc
        have gk2 : (k : Int) < (K : Int) := by omega
        have gk0 : (0 : Int) ≤ k := by omega
        rcases sm with _ | _
        · have HN : Hid (ccTo ds ss src n lo dn m (k + 1) = (cn, 0)) := Lib.hid (by rw [HS.out]; unfold stC; simp)
          go_wp2_with (go_at_call 64; refine (LT.out _).mono ?_; rintro e w8 ⟨rfl, hb8⟩; obtain ⟨B8, hz8, q8, s8, t8, x8, y8, z8⟩ := bkeep (w := wr) [b] (by first | (simp; done) | (simp; omega)) (by first | (go_grown; done) | exact bdrewN (by go_grown) _) hb8; (try simp at hz8); clear hb8)
          go_roundw
          case rel => exact ⟨HBr.out.trans (Below.mono (show Below wr.heap.size wr _ by first | with_reducible exact B8 | (go_grown; done) | exact bdrewN (by go_grown) _) sr), k + 1, cn, 0, by omega, by go_num, Lib.hid HN.out, rfl, rfl⟩
          case measure => simp [intOf]; omega
        · by_cases h0 : t = 0
          · subst h0
            have HN : Hid (ccTo ds ss src n lo dn m (k + 1) = (cn, la)) := Lib.hid (by rw [HS.out]; unfold stC; simp)
            go_wp2_with (go_at_call 64; refine (LT.out _).mono ?_; rintro e w8 ⟨rfl, hb8⟩; obtain ⟨B8, hz8, q8, s8, t8, x8, y8, z8⟩ := bkeep (w := wr) [b] (by first | (simp; done) | (simp; omega)) (by first | (go_grown; done) | exact bdrewN (by go_grown) _) hb8; (try simp at hz8); clear hb8)
            go_roundw
            case rel => exact ⟨HBr.out.trans (Below.mono (show Below wr.heap.size wr _ by first | with_reducible exact B8 | (go_grown; done) | exact bdrewN (by go_grown) _) sr), k + 1, cn, la, by omega, by go_num, Lib.hid HN.out, rfl, rfl⟩
            case measure => simp [intOf]; omega
          · have h0b : (t != 0) = true := by simpa using h0
            have h0c : (t == 0) = false := beq_eq_false_iff_ne.2 h0
            by_cases hl : la = -t
            · have hlb : (la == -t) = true := by simpa using hl
              have HN : Hid (ccTo ds ss src n lo dn m (k + 1) = ((cn + 1), t)) := Lib.hid (by rw [HS.out]; unfold stC; simp [h0, hl])
              go_wp2_with (go_at_call 64; refine (LT.out _).mono ?_; rintro e w8 ⟨rfl, hb8⟩; obtain ⟨B8, hz8, q8, s8, t8, x8, y8, z8⟩ := bkeep (w := wr) [b] (by first | (simp; done) | (simp; omega)) (by first | (go_grown; done) | exact bdrewN (by go_grown) _) hb8; (try simp at hz8); clear hb8)
              go_roundw
              case rel => exact ⟨HBr.out.trans (Below.mono (show Below wr.heap.size wr _ by first | with_reducible exact B8 | (go_grown; done) | exact bdrewN (by go_grown) _) sr), k + 1, (cn + 1), t, by omega, by go_num, Lib.hid HN.out, rfl, rfl⟩
              case measure => simp [intOf]; omega
            · have hlb : (la == -t) = false := beq_eq_false_iff_ne.2 hl
              have HN : Hid (ccTo ds ss src n lo dn m (k + 1) = (cn, t)) := Lib.hid (by rw [HS.out]; unfold stC; simp [h0, hl])
              go_wp2_with (go_at_call 64; refine (LT.out _).mono ?_; rintro e w8 ⟨rfl, hb8⟩; obtain ⟨B8, hz8, q8, s8, t8, x8, y8, z8⟩ := bkeep (w := wr) [b] (by first | (simp; done) | (simp; omega)) (by first | (go_grown; done) | exact bdrewN (by go_grown) _) hb8; (try simp at hz8); clear hb8)
              go_roundw
              case rel => exact ⟨HBr.out.trans (Below.mono (show Below wr.heap.size wr _ by first | with_reducible exact B8 | (go_grown; done) | exact bdrewN (by go_grown) _) sr), k + 1, cn, t, by omega, by go_num, Lib.hid HN.out, rfl, rfl⟩
              case measure => simp [intOf]; omega
      · obtain rfl : k = K := by omega
        go_wp2
        go_ret2
        exact ⟨by rw [hcc.out] <;> rfl, HB1.out.trans (HBr.out.mono (by omega))⟩
  · have e := cc_no dn hc
    have hE2 : (faE ds ss src n lo hi st != 0) = true := by simpa using hc
    have EE := Lib.hid e; have HC := Lib.hid hc; have H := Lib.hid h; clear e hc h
    go_enter Try.func23, Try.ntmps23
    go_wp2_with (go_at_call 63; refine (l08Cells_bad _ _ _ _ _ _ _ _ _ _ _ _ _ (H.out.below (B := w.heap.size) (by first | exact Below.refl _ _ | (go_grown; done) | exact bdrewN (by go_grown) _) (Nat.le_refl _)) HC.out).mono ?_; rintro e w1 ⟨rfl, hb1⟩; obtain ⟨B1, hz1, q1, s1, t1, x1, y1, z1⟩ := bkeep (w := w) [w.heap.size] (by first | (simp; done) | (simp; omega)) (by first | (go_grown; done) | exact bdrewN (by go_grown) _) hb1; (try simp at hz1); clear hb1)
    go_ret2
    exact ⟨by rw [EE.out] <;> rfl, (by first | with_reducible exact B1 | (go_grown; done) | with_reducible exact bdrewN B1 _ | (go_grown <;> first | with_reducible exact bdrewN B1 _ | with_reducible exact B1))⟩
end

section
set_option linter.unusedSimpArgs false
set_option linter.unusedVariables false
open Go.RowKit

def hasB (xs : List Int) (x : Int) : Bool := xs.any (fun y => decide (y = x))
theorem has_stop {xs : List Int} {x y : Int} {k : Nat} (h : xs[k]? = some y) (e : y = x) : hasB xs x = true := by
  unfold hasB; rw [List.any_eq_true]; exact ⟨y, List.mem_of_getElem? h, by simp [e]⟩
theorem has_none {xs : List Int} {x : Int} (h : ∀ (i : Nat) y, xs[i]? = some y → y ≠ x) : hasB xs x = false := by
  unfold hasB; rw [List.any_eq_false]
  intro y hy
  obtain ⟨i, hi⟩ := List.getElem?_of_mem hy
  simp [h i y hi]
set_option maxHeartbeats 1000000 in
theorem hasInt_any (A : Option Addr) (c : Nat) (xs : List Int) (x : Int) (w : World) (hx : IntsAt w A c xs) :
    Calls Try.prog 43 #[.slice A xs.length c, .int .i64 x] w fun e w' => e = .returned (.bool (hasB xs x)) ∧ Below w.heap.size w w' := by
  have hn := Nat.le_trans hx.1 hx.2.1
  have HX := Lib.hid hx; clear hx
  go_enter Try.func43, Try.ntmps43
  go_wp2
  go_loop [5] (fun i => ∃ k : Nat, k ≤ xs.length ∧ i = .int .i64 k ∧ ∀ (i : Nat) y, i < k → xs[i]? = some y → y ≠ x) (fun i => xs.length - (intOf i).toNat)
  case atStart => exact ⟨0, by omega, rfl, fun i y h => absurd h (by omega)⟩
  case round =>
    obtain ⟨k, hk, rfl, ha⟩ := hrel
    have HA := Lib.hid ha; clear ha
    by_cases hlt : k < xs.length
    · obtain ⟨b, off, y, rfl, hb, hxk, hc⟩ := HX.out.at_ hlt
      have HK := Lib.hid hxk; clear hxk
      have hk0 : (0 : Int) ≤ (k : Int) := Int.natCast_nonneg _
      have hk1 : (k : Int) < (xs.length : Int) := by omega
      by_cases hxy : y = x
      · have HE := Lib.hid (has_stop HK.out hxy)
        subst hxy
        go_wp2
        go_ret
        exact ⟨ret_bool HE.out.symm, Below.refl _ _⟩
      · have hb1 : (y == x) = false := beq_eq_false_iff_ne.2 hxy
        go_wp2
        go_round
        case rel => exact ⟨k + 1, by omega, by go_num, fun i z hi hz => by
                          by_cases e : i = k
                          · subst e; rw [HK.out] at hz; injection hz with hz; subst hz; exact hxy
                          · exact HA.out i z (by omega) hz⟩
        case measure => simp [intOf]; omega
    · have HE := Lib.hid (has_none (xs := xs) (x := x) (fun i y hy => HA.out i y (by have := (List.getElem?_eq_some_iff.1 hy).1; omega) hy))
      go_wp2
      go_ret
      exact ⟨ret_bool HE.out.symm, Below.refl _ _⟩
end

section
set_option linter.unusedSimpArgs false
set_option linter.unusedVariables false

/-- the first pair of a fan never counts -/
theorem cc_bd2 (ds ss : List Int) (src n lo : Int) (dn : Bool) (st : Nat) : ∀ k : Nat, (ccTo ds ss src n lo dn st (k + 1)).1 ≤ k := by
  intro k
  induction k with
  | zero =>
    show (stC (0, 0) _ _).1 ≤ _
    unfold stC
    split
    · split
      · simp
      · rename_i h1 h2
        dsimp only
        rw [if_neg (by omega)]; simp
    · simp
  | succ k ih =>
    rw [ccTo]
    generalize ccTo ds ss src n lo dn st (k + 1) = S at *
    unfold stC
    split
    · split
      · omega
      · split <;> (dsimp only; omega)
    · dsimp only; omega
theorem hasB_append (xs ys : List Int) (x : Int) : hasB (xs ++ ys) x = (hasB xs x || hasB ys x) := by unfold hasB; rw [List.any_append]
/-- a cell is among the open ones exactly if its verdict is not free -/
theorem oc_has (L : List Int) (lo : Int) (m : Nat) : ∀ k : Nat, hasB (ocTo L lo k) (lo + m) = (decide (m < k) && decide (spd L m ≠ 0)) := by
  intro k
  induction k with
  | zero => simp [ocTo, hasB]
  | succ k ih =>
    by_cases e : m = k
    · subst e
      rw [ocTo]
      split
      · rename_i h; rw [ih, h]; simp
      · rename_i h; rw [hasB_append, ih]; simp [hasB, h]
    · have e2 : decide (m < k + 1) = decide (m < k) := by
        by_cases g : m < k
        · rw [decide_eq_true g, decide_eq_true (by omega)]
        · rw [decide_eq_false g, decide_eq_false (by omega)]
      rw [e2, ocTo]
      split
      · exact ih
      · rw [hasB_append, ih]
        have e3 : hasB [lo + (k : Int)] (lo + m) = false := by simp [hasB]; omega
        rw [e3, Bool.or_false]
end

section
set_option linter.unusedSimpArgs false
set_option linter.unusedVariables false
open Go.RowKit

/-- the traces of a fan's directions in memory: the blocks of their events lie apart from two growing rows -/
def TrsI (ds ss : List Int) (src n lo : Int) (dn : Bool) (st : Nat) (w : World) (v1 v2 : Value) (els : List (List Value)) : Prop :=
  ∀ (i : Nat) e, els[i]? = some e → ∃ Ae ce As cs Ad cd l h, e = [.slice Ae st ce, .slice As st cs, .slice Ad st cd] ∧ ResI w l h Ae ce (trE ds ss src (mdC (lo + (i : Int)) n) (mdH (lo + (i : Int)) n) (rs0 src (mdS (lo + (i : Int)) n dn)) st) ∧ h ≤ w.heap.size ∧ (∀ g, v1.ownBlock = some g → g < l ∨ h ≤ g) ∧ (∀ g, v2.ownBlock = some g → g < l ∨ h ≤ g)
section
variable {ds ss : List Int} {src n lo : Int} {dn : Bool} {st : Nat} {w w1 : World} {v1 v2 v' : Value} {els : List (List Value)}
theorem TrsI.nil : TrsI ds ss src n lo dn st w v1 v2 [] := fun i e h => by simp at h
theorem TrsI.below {B : Nat} (h : TrsI ds ss src n lo dn st w v1 v2 els) (hb : Below B w w1) (hB : w.heap.size ≤ B) : TrsI ds ss src n lo dn st w1 v1 v2 els := fun i e he => by
  obtain ⟨Ae, ce, As, cs, Ad, cd, l, hh, e1, r, s, a, b⟩ := h i e he
  exact ⟨Ae, ce, As, cs, Ad, cd, l, hh, e1, r.below hb (by omega), by have := hb.size; omega, a, b⟩
theorem TrsI.grow1 (h : TrsI ds ss src n lo dn st w v1 v2 els) (hg : w.grownBy w1 v1.ownBlock) (hat : v'.ownBlock = v1.ownBlock ∨ v'.ownBlock = some w.heap.size) : TrsI ds ss src n lo dn st w1 v' v2 els := fun i e he => by
  obtain ⟨Ae, ce, As, cs, Ad, cd, l, hh, e1, r, s, a, b⟩ := h i e he
  refine ⟨Ae, ce, As, cs, Ad, cd, l, hh, e1, r.keep hg.size (fun k k0 k1 => hg.block k (by omega) (fun q => by have := a k q.symm; omega)), by have := hg.size; omega, fun g q => ?_, b⟩
  rcases hat with t | t
  · exact a g (t ▸ q)
  · rw [t] at q; simp only [Option.some.injEq] at q; omega
theorem TrsI.grow2 (h : TrsI ds ss src n lo dn st w v1 v2 els) (hg : w.grownBy w1 v2.ownBlock) (hat : v'.ownBlock = v2.ownBlock ∨ v'.ownBlock = some w.heap.size) : TrsI ds ss src n lo dn st w1 v1 v' els := fun i e he => by
  obtain ⟨Ae, ce, As, cs, Ad, cd, l, hh, e1, r, s, a, b⟩ := h i e he
  refine ⟨Ae, ce, As, cs, Ad, cd, l, hh, e1, r.keep hg.size (fun k k0 k1 => hg.block k (by omega) (fun q => by have := b k q.symm; omega)), by have := hg.size; omega, a, fun g q => ?_⟩
  rcases hat with t | t
  · exact b g (t ▸ q)
  · rw [t] at q; simp only [Option.some.injEq] at q; omega
theorem TrsI.next {i : Nat} {Ae As Ad : Option Addr} {ce cs cd l hh : Nat} (h : TrsI ds ss src n lo dn st w v1 v2 els) (hl : els.length = i) (r : ResI w l hh Ae ce (trE ds ss src (mdC (lo + (i : Int)) n) (mdH (lo + (i : Int)) n) (rs0 src (mdS (lo + (i : Int)) n dn)) st)) (s : hh ≤ w.heap.size) (a : ∀ g, v1.ownBlock = some g → g < l ∨ hh ≤ g) (b : ∀ g, v2.ownBlock = some g → g < l ∨ hh ≤ g) : TrsI ds ss src n lo dn st w v1 v2 (els ++ [[.slice Ae st ce, .slice As st cs, .slice Ad st cd]]) := fun j e he => by
  rcases Nat.lt_or_ge j els.length with q | q
  · rw [List.getElem?_append_left q] at he; exact h j e he
  · rw [List.getElem?_append_right q] at he
    have e0 : j - els.length = 0 := by
      rcases Nat.eq_zero_or_pos (j - els.length) with z | z
      · exact z
      · rw [List.getElem?_eq_none (by simp; omega)] at he; simp at he
    rw [e0] at he
    simp only [List.getElem?_cons_zero, Option.some.injEq] at he
    obtain rfl : j = i := by omega
    exact ⟨Ae, ce, As, cs, Ad, cd, l, hh, he.symm, r, s, a, b⟩
end
def rgF (ds ss : List Int) (src n lo : Int) (dn : Bool) (st k : Nat) : List (List Value) := (List.range k).map fun (i : Nat) => ivCell ((rwAt ds ss src (mdC (lo + (i : Int)) n) (mdS (lo + (i : Int)) n dn) (mdH (lo + (i : Int)) n) st).lo, (rwAt ds ss src (mdC (lo + (i : Int)) n) (mdS (lo + (i : Int)) n dn) (mdH (lo + (i : Int)) n) st).hi)
theorem rgF_len (ds ss : List Int) (src n lo : Int) (dn : Bool) (st k : Nat) : (rgF ds ss src n lo dn st k).length = k := by rw [rgF, List.length_map, List.length_range]
theorem rgF_next (ds ss : List Int) (src n lo : Int) (dn : Bool) (st k : Nat) : rgF ds ss src n lo dn st (k + 1) = rgF ds ss src n lo dn st k ++ [ivCell ((rwAt ds ss src (mdC (lo + (k : Int)) n) (mdS (lo + (k : Int)) n dn) (mdH (lo + (k : Int)) n) st).lo, (rwAt ds ss src (mdC (lo + (k : Int)) n) (mdS (lo + (k : Int)) n dn) (mdH (lo + (k : Int)) n) st).hi)] := by rw [rgF, List.range_succ, List.map_append]; rfl
theorem infoTr : (Try.prog.info? 87).map (fun i => (i.zero, i.size, i.bytes)) = some (some (.agg #[.slice none 0 0, .slice none 0 0, .slice none 0 0]), 3, 72) := by kernel_rfl
theorem tr_ne : 29 ≠ 87 := by decide
/-- the last state of a trace -/
theorem lastAt_any (a c : Value) (A1 A2 : Option Addr) (n1 c1 n2 c2 : Nat) (ds ss : List Int) (src co si hy : Int) (st : Nat) (As : Option Addr) (cs : Nat) (w : World) (h : KAt w As cs 4 ((trS ds ss src co hy (rs0 src si) st).map rsCell)) (r : RayOk ds ss src co si hy) (hn : st ≤ 100) (k : Int) (d : Bool) (l u : Int) (hx : rwAt ds ss src co si hy st = ⟨k, d, l, u⟩) :
    Calls Try.prog 68 #[trV a (.slice As st cs) c, rayV A1 n1 c1 A2 n2 c2 src co si hy] w fun e w' => e = .returned (rsV k d l u) ∧ Below w.heap.size w w' := by
  rcases st with _ | m
  · simp only [rwAt, sumN, kdAt, Rs.mk.injEq] at hx
    obtain ⟨rfl, rfl, rfl, rfl⟩ := hx
    exact last_zero _ _ _ _ _ _ _ _ _ _ _ _ _ _ _
  · obtain ⟨b, off, rfl, hb, d0, d1, d2, d3⟩ := state_cells (k := m) h (by omega)
    rw [(no_limit r (m + 1) hn).2, hx] at d0 d1 d2 d3
    exact last_some _ _ _ _ _ _ _ _ _ _ _ _ b off m _ ⟨k, d, l, u⟩ _ (by omega) d0 d1 d2 d3 hb

theorem rg_all {w : World} {A : Option Addr} {c : Nat} {ds ss : List Int} {src n lo : Int} {dn : Bool} {st M : Nat} (h : KAt w A c 2 (rgF ds ss src n lo dn st M)) (hM : 0 < M) :
    ∃ b off, A = some ⟨b, off, none⟩ ∧ b < w.heap.size ∧ ∀ i : Nat, i < M → w.cell? ⟨b, off + i * 2, none⟩ = some (.int .i64 (rwAt ds ss src (mdC (lo + (i : Int)) n) (mdS (lo + (i : Int)) n dn) (mdH (lo + (i : Int)) n) st).lo) ∧ w.cell? ⟨b, off + i * 2 + 1, none⟩ = some (.int .i64 (rwAt ds ss src (mdC (lo + (i : Int)) n) (mdS (lo + (i : Int)) n dn) (mdH (lo + (i : Int)) n) st).hi) := by
  have one : ∀ i : Nat, i < M → ∃ b off, A = some ⟨b, off, none⟩ ∧ b < w.heap.size ∧ w.cell? ⟨b, off + i * 2, none⟩ = some (.int .i64 (rwAt ds ss src (mdC (lo + (i : Int)) n) (mdS (lo + (i : Int)) n dn) (mdH (lo + (i : Int)) n) st).lo) ∧ w.cell? ⟨b, off + i * 2 + 1, none⟩ = some (.int .i64 (rwAt ds ss src (mdC (lo + (i : Int)) n) (mdS (lo + (i : Int)) n dn) (mdH (lo + (i : Int)) n) st).hi) := fun i hi => by
    obtain ⟨b, off, e, rfl, hb, he, hc⟩ := h.at_ (i := i) (by rw [rgF_len]; exact hi)
    rw [rgF, List.getElem?_map, List.getElem?_range hi] at he
    simp only [Option.map_some, Option.some.injEq] at he
    subst he
    exact ⟨b, off, rfl, hb, by have := hc 0 _ rfl; simpa using this, hc 1 _ rfl⟩
  obtain ⟨b, off, rfl, hb, -⟩ := one 0 hM
  refine ⟨b, off, rfl, hb, fun i hi => ?_⟩
  obtain ⟨b', off', e, -, q⟩ := one i hi
  simp only [Option.some.injEq, Addr.mk.injEq, and_true] at e
  obtain ⟨rfl, rfl⟩ := e
  exact q
theorem tr_all {w : World} {A : Option Addr} {c : Nat} {ds ss : List Int} {src n lo : Int} {dn : Bool} {st M : Nat} {v1 v2 : Value} {els : List (List Value)} (h : KAt w A c 3 els) (hl : els.length = M) (hT : TrsI ds ss src n lo dn st w v1 v2 els) (hM : 0 < M) :
    ∃ b off, A = some ⟨b, off, none⟩ ∧ b < w.heap.size ∧ ∀ i : Nat, i < M → ∃ Ae ce, w.cell? ⟨b, off + i * 3, none⟩ = some (.slice Ae st ce) ∧ IntsAt w Ae ce (trE ds ss src (mdC (lo + (i : Int)) n) (mdH (lo + (i : Int)) n) (rs0 src (mdS (lo + (i : Int)) n dn)) st) := by
  have one : ∀ i : Nat, i < M → ∃ b off, A = some ⟨b, off, none⟩ ∧ b < w.heap.size ∧ ∃ Ae ce, w.cell? ⟨b, off + i * 3, none⟩ = some (.slice Ae st ce) ∧ IntsAt w Ae ce (trE ds ss src (mdC (lo + (i : Int)) n) (mdH (lo + (i : Int)) n) (rs0 src (mdS (lo + (i : Int)) n dn)) st) := fun i hi => by
    obtain ⟨b, off, e, rfl, hb, he, hc⟩ := h.at_ (i := i) (by omega)
    obtain ⟨Ae, ce, As, cs, Ad, cd, l, hh, rfl, r, -⟩ := hT i e he
    exact ⟨b, off, rfl, hb, Ae, ce, by have := hc 0 _ rfl; simpa using this, r.at⟩
  obtain ⟨b, off, rfl, hb, -⟩ := one 0 hM
  refine ⟨b, off, rfl, hb, fun i hi => ?_⟩
  obtain ⟨b', off', e, -, q⟩ := one i hi
  simp only [Option.some.injEq, Addr.mk.injEq, and_true] at e
  obtain ⟨rfl, rfl⟩ := e
  exact q
end

section
set_option linter.unusedSimpArgs false
set_option linter.unusedVariables false
open Go.RowKit

@[go_sem] theorem rsRange (k : Int) (d : Bool) (l u : Int) (w : World) : (Instr.field 63 (.agg #[.int .i64 k, .bool d, .int .i64 l, .int .i64 u]) 2).run Try.prog w = .ok (.agg #[.int .i64 l, .int .i64 u]) w := by kernel_rfl
set_option maxRecDepth 8000 in
set_option maxHeartbeats 4000000 in
theorem implCaus_ok (A1 A2 : Option Addr) (c1 c2 : Nat) (ds ss : List Int) (src n lo hi : Int) (dn : Bool) (st K : Nat) (w : World) (h : ProfAt w A1 c1 A2 c2 ds ss) (hp : profB ds ss = true) (hf : fanB n lo hi = true) (u0 : 0 ≤ src) (u1 : src ≤ (ds.length : Int) - 1) (hst : st ≤ 100) (hK1 : hi ≤ lo + K) (hK2 : lo + K ≤ hi) :
    Calls Try.prog 24 #[profV A1 ds.length c1 A2 ss.length c2, .int .i64 src, .int .i64 n, .int .i64 lo, .int .i64 hi, .bool dn, .int .i64 st] w fun e w' => e = .returned (.tuple #[.int .i64 (ccTo ds ss src n lo dn st K).1, .int .i64 0]) ∧ Below w.heap.size w w' := by
  obtain ⟨f1, f2, f3, f4, f5⟩ := fan_ok hf
  obtain ⟨M, hM1, hM2⟩ : ∃ M : Nat, M ≤ K + 1 ∧ K + 1 ≤ M := ⟨K + 1, Nat.le_refl _, Nat.le_refl _⟩
  have hz : faE ds ss src n lo hi st = 0 := by
    unfold faE
    have a : inB src 0 ((ds.length : Int) - 1) = true := by simp [inB]; omega
    have b : inB (st : Int) 0 100 = true := by simp [inB]; omega
    rw [hp, hf, a, b]; rfl
  have FC := Lib.hid (show ∀ w, ProfAt w A1 c1 A2 c2 ds ss → Calls Try.prog 65 #[profV A1 ds.length c1 A2 ss.length c2, .int .i64 src, .int .i64 n, .int .i64 lo, .int .i64 hi, .int .i64 (st : Int)] w fun e w' => e = .returned (.int .i64 0) ∧ Below w.heap.size w w' from fun w h => by have q := fanCode_any A1 A2 c1 c2 ds ss src n lo hi st w h; rw [hz] at q; exact q)
  have r0 := fan_ray (m := lo) dn hp hf u0 u1 (by omega) (by omega)
  have l0 := r0.l0; have l1 := r0.l1; clear r0
  have H := Lib.hid h; have hp_ := Lib.hid hp; have hf_ := Lib.hid hf; clear h hz hp hf; have hp := Lib.hid hp_.out; have hf := Lib.hid hf_.out; clear hp_ hf_
  go_enter Try.func24, Try.ntmps24
  go_wp2_with fail
  (refine (FC.out _ (H.out.below (B := w.heap.size) (by first | exact Below.refl _ _ | (go_grown; done) | exact bdrewN (by go_grown) _) (Nat.le_refl _))).mono ?_; rintro e w1 ⟨rfl, hb1⟩; obtain ⟨B1, hz1, q1, s1, t1, x1, y1, z1⟩ := bkeep (w := w) [w.heap.size] (by first | (simp; done) | (simp; omega)) (by first | (go_grown; done) | exact bdrewN (by go_grown) _) hb1; (try simp at hz1); clear hb1)
  go_wp2_with fail
  refine (fanOf_any n lo hi dn M _ hf.out (by omega) (by omega)).mono ?_
  rintro e w3 ⟨⟨Af, cf, rfl, RF⟩, hb3⟩
  have VF := Lib.hid RF.at; clear RF
  obtain ⟨B3, hz3, q3, s3, t3, x3, y3, z3⟩ := bkeep (w := w) [w.heap.size] (by first | (simp; done) | (simp; omega)) (by first | (go_grown; done) | exact bdrewN (by go_grown) _) hb3; (try simp at hz3); clear hb3
  refine genS (S := fun w' => Below (w.heap.size) w w' ∧ w.heap.size < w'.heap.size ∧ w'.cell? ⟨w.heap.size, 0, none⟩ = some (.slice A1 ds.length c1) ∧ w'.cell? ⟨w.heap.size, 1, none⟩ = some (.slice A2 ss.length c2) ∧ KAt w' Af cf 3 (fanL n lo dn M)) ⟨(by first | with_reducible exact B3 | (go_grown; done)), by first | omega | (simp; done) | (simp; omega), by simp [*, go_sem], by simp [*, go_sem], VF.out⟩ ?_
  clear q3 s3 t3 x3 y3 z3 hz3 VF
  rintro w4 ⟨B4, lt4_0, c4_0, c4_1, GF⟩
  have z4 : w.heap.size ≤ w4.heap.size := B4.size
  have HP := Lib.hid (H.out.below B4 (Nat.le_refl _)); have HB4 := Lib.hid B4; clear B4 B1 q1 s1 t1 x1 y1 z1 hz1 B3
  obtain ⟨bf, of, rfl, hbf, fa⟩ := fan_all GF (by omega)
  have FA := Lib.hid fa; clear fa GF
  go_wp2
  go_loopw [17, 18, 46] (fun v u i wr => Below w4.heap.size w4 wr ∧ ∃ (k : Nat) (els : List (List Value)), k ≤ M ∧ i = .int .i64 k ∧ OwnK wr w4.heap.size 87 3 v els ∧ els.length = k ∧ OwnK wr w4.heap.size 29 2 u (rgF ds ss src n lo dn st k) ∧ TrsI ds ss src n lo dn st wr v u els) (fun _ _ i _ => M - (intOf i).toNat)
  case atStart => exact ⟨by first | exact Below.refl _ _ | go_grown, 0, [], by omega, rfl, OwnK.none_ _ _ _ _, rfl, OwnK.none_ _ _ _ _, TrsI.nil⟩
  case round =>
    obtain ⟨Br, k, els, hk, rfl, ⟨Q1, d1, rfl, hd1, ho1, hall1⟩, hle, ⟨Q2, d2, rfl, hd2, ho2, hall2⟩, hT⟩ := hrel
    simp only [rgF_len] at ho2 hT ⊢
    rw [hle] at ho1 hT ⊢
    have HO1 := Lib.hid ho1; have HO2 := Lib.hid ho2; have HA1 := Lib.hid hall1; have HA2 := Lib.hid hall2; have HT := Lib.hid hT; have HL := Lib.hid hle; clear ho1 ho2 hall1 hall2 hT hle
    have sr := Br.size
    have HBr := Lib.hid Br
    have r0 := (bAt Br (b := w.heap.size) (o := 0) (by omega)).trans c4_0
    have r1 := (bAt Br (b := w.heap.size) (o := 1) (by omega)).trans c4_1
    have HR := Lib.hid (HP.out.below Br (Nat.le_refl _))
    by_cases hlt : k < M
    · have ra := fan_ray (m := lo + (k : Int)) dn hp.out hf.out u0 u1 (by omega) (by omega)
      obtain ⟨a0, a1, a2⟩ := FA.out k hlt
      have b0 := (bAt Br (b := bf) (o := of + k * 3) hbf).trans a0
      have b1 := (bAt Br (b := bf) (o := of + k * 3 + 1) hbf).trans a1
      have b2 := (bAt Br (b := bf) (o := of + k * 3 + 2) hbf).trans a2
      have hN := rgF_next ds ss src n lo dn st k
      have TN := Lib.hid (fun (w : World) (v1 v2 : Value) (Ae As Ad : Option Addr) (ce cs cd l hh : Nat) (h : TrsI ds ss src n lo dn st w v1 v2 els) (r : ResI w l hh Ae ce (trE ds ss src (mdC (lo + (k : Int)) n) (mdH (lo + (k : Int)) n) (rs0 src (mdS (lo + (k : Int)) n dn)) st)) (s : hh ≤ w.heap.size) (a : ∀ g, v1.ownBlock = some g → g < l ∨ hh ≤ g) (b : ∀ g, v2.ownBlock = some g → g < l ∨ hh ≤ g) => TrsI.next (i := k) (As := As) (cs := cs) (Ad := Ad) (cd := cd) h HL.out r s a b)
      clear a0 a1 a2 Br
      generalize mdC (lo + (k : Int)) n = c0 at *
      generalize mdS (lo + (k : Int)) n dn = s0_ at *
      generalize mdH (lo + (k : Int)) n = h0 at *
      obtain ⟨xk, xd, xl, xh, hx⟩ := rs_cell (rwAt ds ss src c0 s0_ h0 st)
      rw [hx] at hN
      dsimp only at hN
      have LA := Lib.hid (fun (a c : Value) (As : Option Addr) (cs : Nat) (w : World) (h : KAt w As cs 4 ((trS ds ss src c0 h0 (rs0 src s0_) st).map rsCell)) => lastAt_any a c A1 A2 ds.length c1 ss.length c2 ds ss src c0 s0_ h0 st As cs w h ra hst xk xd xl xh hx)
      have TR := Lib.hid (fun w h => implTrace_ok A1 A2 c1 c2 ds ss src c0 s0_ h0 st w h ra hst (no_limit ra st hst).1)
      have HN := Lib.hid hN; clear hN hx ra
      have gk : (k : Int) < M := by omega
      have gk0 : (0 : Int) ≤ k := by omega
      have lbf : bf < wr.heap.size := by omega
      have lp : w.heap.size < wr.heap.size := by omega
      have lpn : (w.heap.size = wr.heap.size) = False := eq_false (by omega)
      go_upto_region 13 with (go_at_call 67; refine (TR.out _ (HR.out.below (B := wr.heap.size) (by first | exact Below.refl _ _ | (go_grown; done) | exact bdrewN (by go_grown) _) (Nat.le_refl _))).mono ?_; rintro e w7 ⟨⟨Ae, ce, As, cs, Ad, cd, rfl, R1, R2, R3⟩, hb7⟩; clear R3; have V1 := Lib.hid (R1.mono (show wr.heap.size ≤ _ by first | (simp; done) | (simp; omega)) (Nat.le_refl _)); have V2 := Lib.hid (R2.mono (show wr.heap.size ≤ _ by first | (simp; done) | (simp; omega)) (Nat.le_refl _)); clear R1 R2; obtain ⟨B7, hz7, q7, s7, t7, x7, y7, z7⟩ := bkeep (w := wr) [w.heap.size, wr.heap.size + 1] (by first | (simp; done) | (simp; omega)) (by first | (go_grown; done) | exact bdrewN (by go_grown) _) hb7; (try simp at hz7); clear hb7)
      have K7 := Keep.of_below (lo := w4.heap.size) B7
      have l7 : wr.heap.size + 1 + 1 ≤ w7.heap.size := by omega
      refine genS (S := fun w' => Below (wr.heap.size) wr w' ∧ wr.heap.size + 1 < w'.heap.size ∧ w7.heap.size < w'.heap.size ∧ w'.cell? ⟨wr.heap.size + 1, 0, none⟩ = some (.slice A1 ds.length c1) ∧ w'.cell? ⟨wr.heap.size + 1, 1, none⟩ = some (.slice A2 ss.length c2) ∧ w'.cell? ⟨wr.heap.size + 1, 2, none⟩ = some (.int .i64 src) ∧ w'.cell? ⟨wr.heap.size + 1, 3, none⟩ = some (.int .i64 c0) ∧ w'.cell? ⟨wr.heap.size + 1, 4, none⟩ = some (.int .i64 s0_) ∧ w'.cell? ⟨wr.heap.size + 1, 5, none⟩ = some (.int .i64 h0) ∧ w'.cell? ⟨w7.heap.size, 0, none⟩ = some (.slice Ae st ce) ∧ w'.cell? ⟨w7.heap.size, 1, none⟩ = some (.slice As st cs) ∧ w'.cell? ⟨w7.heap.size, 2, none⟩ = some (.slice Ad st cd) ∧ w'.ownsRow w4.heap.size 87 3 (.slice Q1 k d1) k els.flatten ∧ w'.ownsRow w4.heap.size 29 2 (.slice Q2 k d2) k (rgF ds ss src n lo dn st k).flatten ∧ ResI w' wr.heap.size w7.heap.size Ae ce (trE ds ss src c0 h0 (rs0 src s0_) st) ∧ ResK w' wr.heap.size w7.heap.size As cs 4 ((trS ds ss src c0 h0 (rs0 src s0_) st).map rsCell)) ⟨(by first | with_reducible exact B7 | (go_grown; done)), by first | omega | (simp; done) | (simp; omega), by first | omega | (simp; done) | (simp; omega), by simp [*, go_sem], by simp [*, go_sem], by simp [*, go_sem], by simp [*, go_sem], by simp [*, go_sem], by simp [*, go_sem], by simp [*, go_sem], by simp [*, go_sem], by simp [*, go_sem], own_keep HO1.out (by repeat' (first | with_reducible exact K7 | with_reducible exact Keep.refl _ _ _ | with_reducible refine Keep.setB ?_ ?_ _ | with_reducible refine Keep.alloc ?_ ?_ _ | with_reducible refine Keep.drew ?_ | omega | (simp; done) | (simp; omega))), own_keep HO2.out (by repeat' (first | with_reducible exact K7 | with_reducible exact Keep.refl _ _ _ | with_reducible refine Keep.setB ?_ ?_ _ | with_reducible refine Keep.alloc ?_ ?_ _ | with_reducible refine Keep.drew ?_ | omega | (simp; done) | (simp; omega))), V1.out.below (B := w7.heap.size) (by go_grown) (Nat.le_refl _), V2.out.below (B := w7.heap.size) (by go_grown) (Nat.le_refl _)⟩ ?_
      clear q7 s7 t7 x7 y7 z7 hz7 V1 V2 r0 r1 b0 b1 b2
      rintro w8 ⟨B8, lt8_0, lt8_1, c8_0, c8_1, c8_2, c8_3, c8_4, c8_5, c8_6, c8_7, c8_8, G1, G2, GV, GS⟩
      have z8 : wr.heap.size ≤ w8.heap.size := B8.size
      have T8 := Lib.hid (TN.out w8 _ _ Ae As Ad ce cs cd wr.heap.size w7.heap.size (HT.out.below B8 (Nat.le_refl _)) GV (by omega) (fun g q => by have := HO1.out.lt g q; omega) (fun g q => by have := HO2.out.lt g q; omega))
      have W1 := Lib.hid (fun g q => HO1.out.lt g q); have W2 := Lib.hid (fun g q => HO2.out.lt g q)
      have O1 := Lib.hid G1; have O2 := Lib.hid G2; have VS := Lib.hid GS; have HB8 := Lib.hid B8; clear G1 G2 GV GS B8 TN HT TR HO1 HO2 B7 K7
      go_upto_region 14 with (at_builtin; refine appG rfl _ _ 114 rfl w4.heap.size 87 (.agg #[.slice none 0 0, .slice none 0 0, .slice none 0 0]) 3 72 Try.underlying114 infoTr rfl (by omega) [.slice Ae st ce, .slice As st cs, .slice Ad st cd] rfl (by intro u hu; simp at hu; rcases hu with rfl | rfl | rfl <;> rfl) _ _ _ rfl _ rfl (own_keep O1.out (by repeat' (first | with_reducible exact Keep.refl _ _ _ | with_reducible refine Keep.setB ?_ ?_ _ | with_reducible refine Keep.alloc ?_ ?_ _ | with_reducible refine Keep.drew ?_ | omega | (simp; done) | (simp; omega)))) ?_ ?_ ?_ ?_ ?_; (focus (intro j u hj; match j, hj with | 0, hj => (simp at hj; subst hj; simp [*, go_sem]) | 1, hj => (simp at hj; subst hj; simp [*, go_sem]) | 2, hj => (simp at hj; subst hj; simp [*, go_sem]) | j + 3, hj => simp at hj)); (focus (unfold maxLen; omega)); (focus omega); (focus (first | omega | (simp; omega))); intro v9 w9 hown9 hg9 hat9; have T9 := Lib.hid ((T8.out.below (B := w8.heap.size) (by first | exact Below.refl _ _ | (go_grown; done)) (Nat.le_refl _)).grow1 hg9 hat9); have M2 := Lib.hid ((own_keep O2.out (by repeat' (first | with_reducible exact Keep.refl _ _ _ | with_reducible refine Keep.setB ?_ ?_ _ | with_reducible refine Keep.alloc ?_ ?_ _ | with_reducible refine Keep.drew ?_ | omega | (simp; done) | (simp; omega)))).kept hg9 (own_ne (own_keep O1.out (by repeat' (first | with_reducible exact Keep.refl _ _ _ | with_reducible refine Keep.setB ?_ ?_ _ | with_reducible refine Keep.alloc ?_ ?_ _ | with_reducible refine Keep.drew ?_ | omega | (simp; done) | (simp; omega)))) (own_keep O2.out (by repeat' (first | with_reducible exact Keep.refl _ _ _ | with_reducible refine Keep.setB ?_ ?_ _ | with_reducible refine Keep.alloc ?_ ?_ _ | with_reducible refine Keep.drew ?_ | omega | (simp; done) | (simp; omega)))) tr_ne)); have S9 := Lib.hid (VS.out.keep (Keep.grown (lo := wr.heap.size) (hi := w7.heap.size) (w := w8) (by repeat' (first | with_reducible exact Keep.refl _ _ _ | with_reducible refine Keep.setB ?_ ?_ _ | with_reducible refine Keep.alloc ?_ ?_ _ | with_reducible refine Keep.drew ?_ | omega | (simp; done) | (simp; omega))) hg9 (fun g q => by have := W1.out g q; omega) (by omega))); have C9 := Below.grow (B := w4.heap.size) (w0 := wr) (by have hb_ := HB8.out.mono (show w4.heap.size ≤ wr.heap.size by omega); first | with_reducible exact hb_ | (go_grown; done)) hg9 (fun g q => by have := W1.out g q; omega) (by first | omega | (simp; omega)); obtain ⟨z9, q9, s9, x9, y9⟩ := gkeep (lo := w4.heap.size) (hi := wr.heap.size) [wr.heap.size + 1, w7.heap.size] (fun g q => W1.out g q) (by first | (simp; done) | (simp; omega)) hg9; obtain ⟨Q3, d3, rfl, hd3⟩ := owns_form hown9; have M1 := Lib.hid hown9; clear hown9 hg9 hat9)
      have lx1 := x9 (wr.heap.size + 1) (by simp); have lx2 := x9 w7.heap.size (by simp)
      refine genS (S := fun w' => Below (w4.heap.size) wr w' ∧ wr.heap.size + 1 < w'.heap.size ∧ w7.heap.size < w'.heap.size ∧ w'.cell? ⟨wr.heap.size + 1, 0, none⟩ = some (.slice A1 ds.length c1) ∧ w'.cell? ⟨wr.heap.size + 1, 1, none⟩ = some (.slice A2 ss.length c2) ∧ w'.cell? ⟨wr.heap.size + 1, 2, none⟩ = some (.int .i64 src) ∧ w'.cell? ⟨wr.heap.size + 1, 3, none⟩ = some (.int .i64 c0) ∧ w'.cell? ⟨wr.heap.size + 1, 4, none⟩ = some (.int .i64 s0_) ∧ w'.cell? ⟨wr.heap.size + 1, 5, none⟩ = some (.int .i64 h0) ∧ w'.cell? ⟨w7.heap.size, 0, none⟩ = some (.slice Ae st ce) ∧ w'.cell? ⟨w7.heap.size, 1, none⟩ = some (.slice As st cs) ∧ w'.cell? ⟨w7.heap.size, 2, none⟩ = some (.slice Ad st cd) ∧ w9.heap.size ≤ w'.heap.size ∧ w8.heap.size ≤ w'.heap.size ∧ w'.ownsRow w4.heap.size 87 3 (.slice Q3 (k + 1) d3) (k + 1) (els.flatten ++ [.slice Ae st ce, .slice As st cs, .slice Ad st cd]) ∧ w'.ownsRow w4.heap.size 29 2 (.slice Q2 k d2) k (rgF ds ss src n lo dn st k).flatten ∧ TrsI ds ss src n lo dn st w' (.slice Q3 (k + 1) d3) (.slice Q2 k d2) (els ++ [[.slice Ae st ce, .slice As st cs, .slice Ad st cd]]) ∧ ResK w' wr.heap.size w7.heap.size As cs 4 ((trS ds ss src c0 h0 (rs0 src s0_) st).map rsCell)) ⟨(by first | with_reducible exact C9 | (go_grown; done)), by first | omega | (simp; done) | (simp; omega), by first | omega | (simp; done) | (simp; omega), by simp [*, go_sem], by simp [*, go_sem], by simp [*, go_sem], by simp [*, go_sem], by simp [*, go_sem], by simp [*, go_sem], by simp [*, go_sem], by simp [*, go_sem], by simp [*, go_sem], Nat.le_refl _, by first | omega | (simp at z9; omega), M1.out, M2.out, T9.out, S9.out⟩ ?_
      clear q9 s9 x9 y9 T9 M1 M2 S9 O1 O2 VS T8 c8_0 c8_1 c8_2 c8_3 c8_4 c8_5 c8_6 c8_7 c8_8
      rintro w10 ⟨B10, lt10_0, lt10_1, c10_0, c10_1, c10_2, c10_3, c10_4, c10_5, c10_6, c10_7, c10_8, sz10, sz10b, G1, G2, GT, GS⟩
      have z10 : wr.heap.size ≤ w10.heap.size := B10.size
      have O1 := Lib.hid G1; have O2 := Lib.hid G2; have VS := Lib.hid GS; have T10 := Lib.hid GT; have HB10 := Lib.hid B10; clear G1 G2 GS GT B10 C9
      go_wp2_with (first
        | (go_at_call 68; refine (LA.out _ _ As cs _ (VS.out.at.below (B := w10.heap.size) (by first | exact Below.refl _ _ | (go_grown; done)) (Nat.le_refl _))).mono ?_; rintro e w11 ⟨rfl, hb11⟩; have K11 := Keep.of_below (lo := w4.heap.size) hb11; have HB11 := Lib.hid hb11; have sz11 := hb11.size; clear hb11)
        | (at_builtin; refine appG rfl _ _ 85 rfl w4.heap.size 29 (.agg #[.int .i64 0, .int .i64 0]) 2 16 Try.underlying85 infoIv rfl (by omega) (ivCell (xl, xh)) rfl (by intro u hu; simp [ivCell] at hu; rcases hu with rfl | rfl <;> rfl) _ _ _ rfl _ rfl (own_keep O2.out (by repeat' (first | with_reducible exact K11 | with_reducible exact Keep.refl _ _ _ | with_reducible refine Keep.setB ?_ ?_ _ | with_reducible refine Keep.alloc ?_ ?_ _ | with_reducible refine Keep.drew ?_ | omega | (simp; done) | (simp; omega)))) ?_ ?_ ?_ ?_ ?_; (focus (intro j u hj; match j, hj with | 0, hj => (simp [ivCell] at hj; subst hj; simp [*, go_sem]) | 1, hj => (simp [ivCell] at hj; subst hj; simp [*, go_sem]) | j + 2, hj => simp [ivCell] at hj)); (focus (unfold maxLen; omega)); (focus omega); (focus (first | omega | (simp; omega))); intro v12 w12 hown12 hg12 hat12; have T12 := Lib.hid ((T10.out.below (B := w10.heap.size) (by have hb_ := HB11.out; first | with_reducible exact hb_ | (go_grown; done)) (Nat.le_refl _)).grow2 hg12 hat12); have M1 := Lib.hid ((own_keep O1.out (by repeat' (first | with_reducible exact K11 | with_reducible exact Keep.refl _ _ _ | with_reducible refine Keep.setB ?_ ?_ _ | with_reducible refine Keep.alloc ?_ ?_ _ | with_reducible refine Keep.drew ?_ | omega | (simp; done) | (simp; omega)))).kept hg12 (own_ne (own_keep O2.out (by repeat' (first | with_reducible exact K11 | with_reducible exact Keep.refl _ _ _ | with_reducible refine Keep.setB ?_ ?_ _ | with_reducible refine Keep.alloc ?_ ?_ _ | with_reducible refine Keep.drew ?_ | omega | (simp; done) | (simp; omega)))) (own_keep O1.out (by repeat' (first | with_reducible exact K11 | with_reducible exact Keep.refl _ _ _ | with_reducible refine Keep.setB ?_ ?_ _ | with_reducible refine Keep.alloc ?_ ?_ _ | with_reducible refine Keep.drew ?_ | omega | (simp; done) | (simp; omega)))) tr_ne.symm)); have C12 := Below.grow (B := w4.heap.size) (w0 := w4) (by have hb_ := HBr.out.trans (HB10.out.trans (HB11.out.mono (show w4.heap.size ≤ w10.heap.size by omega))); first | with_reducible exact hb_ | (go_grown; done)) hg12 (fun g q => by have := W2.out g q; omega) (by first | omega | (simp; omega)); obtain ⟨Q4, d4, rfl, hd4⟩ := owns_form hown12; have M2 := Lib.hid hown12; clear hown12 hg12 hat12))
      go_roundw
      case rel =>
        refine ⟨C12, k + 1, els ++ [[.slice Ae st ce, .slice As st cs, .slice Ad st cd]], by omega, by first | done | go_num | rfl, OwnK.next (els := els) rfl (by rw [HL.out]; exact M1.out) HA1.out rfl, by rw [List.length_append, HL.out]; rfl, OwnK.next (els := rgF ds ss src n lo dn st k) HN.out (by rw [rgF_len]; exact M2.out) HA2.out rfl, T12.out⟩
      case measure => simp [intOf]; omega
    · obtain rfl : k = M := by omega
      clear r0 r1 Br
      generalize wr = wo at *
      have KR := Lib.hid (OwnK.res (n := k) (els := rgF ds ss src n lo dn st k) ⟨Q2, d2, by rw [rgF_len], hd2, by rw [rgF_len]; exact HO2.out, HA2.out⟩).2.at
      have KT := Lib.hid (OwnK.res (n := k) (els := els) ⟨Q1, d1, by rw [HL.out], hd1, by rw [HL.out]; exact HO1.out, HA1.out⟩).2.at
      obtain ⟨b1, o1, rfl, hb1, ga⟩ := rg_all KR.out (by omega)
      obtain ⟨b2, o2, rfl, hb2, gt⟩ := tr_all KT.out HL.out HT.out (by omega)
      have GA := Lib.hid ga; have GT := Lib.hid gt; clear ga gt KR KT HO1 HO2 HA1 HA2 HT HL
      go_wp2
      go_loopw [24, 25, 26] (fun c y i wr => Below wo.heap.size wo wr ∧ ∃ (j : Nat) (ii cn la : Int), j ≤ K ∧ ii ≤ (j : Int) + 1 ∧ (j : Int) + 1 ≤ ii ∧ i = .int .i64 ii ∧ Hid (ccTo ds ss src n lo dn st j = (cn, la)) ∧ c = .int .i64 cn ∧ y = .int .i64 la) (fun _ _ i _ => k - (intOf i).toNat)
      case atStart => exact ⟨by first | exact Below.refl _ _ | go_grown, 0, 1, 0, 0, by omega, by omega, by omega, rfl, Lib.hid rfl, rfl, rfl⟩
      case round =>
        obtain ⟨Bq, j, ii, cn, la, hj, hi1, hi2, rfl, hcc, rfl, rfl⟩ := hrel
        have bd := cc_bd ds ss src n lo dn st j
        rw [hcc.out] at bd
        dsimp only at bd
        obtain ⟨bd1, bd2, bd3, bd4⟩ := bd
        have sq := Bq.size
        have HBq := Lib.hid Bq
        by_cases hlt : j < K
        · obtain ⟨e0, e1⟩ := GA.out j (by omega)
          obtain ⟨e2, e3⟩ := GA.out (j + 1) (by omega)
          obtain ⟨Ae, ce, g0, i0⟩ := GT.out j (by omega)
          obtain ⟨Be, de, g1, i1⟩ := GT.out (j + 1) (by omega)
          have ek : ((j + 1 : Nat) : Int) = (j : Int) + 1 := by omega
          rw [ek] at e2 e3 i1
          have fe0 := (bAt Bq (b := b1) (o := o1 + j * 2) hb1).trans e0
          have fe1 := (bAt Bq (b := b1) (o := o1 + j * 2 + 1) hb1).trans e1
          have fe2 := (bAt Bq (b := b1) (o := o1 + (j + 1) * 2) hb1).trans e2
          have fe3 := (bAt Bq (b := b1) (o := o1 + (j + 1) * 2 + 1) hb1).trans e3
          have fg0 := (bAt Bq (b := b2) (o := o2 + j * 3) hb2).trans g0
          have fg1 := (bAt Bq (b := b2) (o := o2 + (j + 1) * 3) hb2).trans g1
          have I0 := Lib.hid (i0.below Bq (Nat.le_refl _)); have I1 := Lib.hid (i1.below Bq (Nat.le_refl _))
          clear e0 e1 e2 e3 g0 g1 i0 i1 ek Bq
          have ra := fan_ray (m := lo + (j : Int)) dn hp.out hf.out u0 u1 (by omega) (by omega)
          have rb := fan_ray (m := lo + ((j : Int) + 1)) dn hp.out hf.out u0 u1 (by omega) (by omega)
          have se := same_eq ra rb st hst
          have hS : ccTo ds ss src n lo dn st (j + 1) = stC (ccTo ds ss src n lo dn st j) (sameN ds ss src (mdC (lo + (j : Int)) n) (mdS (lo + (j : Int)) n dn) (mdH (lo + (j : Int)) n) (mdC (lo + ((j : Int) + 1)) n) (mdS (lo + ((j : Int) + 1)) n dn) (mdH (lo + ((j : Int) + 1)) n) st) (trd (rwAt ds ss src (mdC (lo + (j : Int)) n) (mdS (lo + (j : Int)) n dn) (mdH (lo + (j : Int)) n) st) (rwAt ds ss src (mdC (lo + ((j : Int) + 1)) n) (mdS (lo + ((j : Int) + 1)) n dn) (mdH (lo + ((j : Int) + 1)) n) st)) := rfl
          obtain ⟨xk, xd, xl, xh, hx⟩ := rs_cell (rwAt ds ss src (mdC (lo + (j : Int)) n) (mdS (lo + (j : Int)) n dn) (mdH (lo + (j : Int)) n) st)
          obtain ⟨yk, yd, yl, yh, hy_⟩ := rs_cell (rwAt ds ss src (mdC (lo + ((j : Int) + 1)) n) (mdS (lo + ((j : Int) + 1)) n dn) (mdH (lo + ((j : Int) + 1)) n) st)
          obtain ⟨sm, hsm⟩ : ∃ x, sameN ds ss src (mdC (lo + (j : Int)) n) (mdS (lo + (j : Int)) n dn) (mdH (lo + (j : Int)) n) (mdC (lo + ((j : Int) + 1)) n) (mdS (lo + ((j : Int) + 1)) n dn) (mdH (lo + ((j : Int) + 1)) n) st = x := ⟨_, rfl⟩
          rw [hx, hy_, hsm, hcc.out] at hS
          rw [hx] at fe0 fe1; rw [hy_] at fe2 fe3
          dsimp only at fe0 fe1 fe2 fe3
          rw [hsm] at se
          have EQ := Lib.hid (show ∀ w, IntsAt w Ae ce (trE ds ss src (mdC (lo + (j : Int)) n) (mdH (lo + (j : Int)) n) (rs0 src (mdS (lo + (j : Int)) n dn)) st) → IntsAt w Be de (trE ds ss src (mdC (lo + ((j : Int) + 1)) n) (mdH (lo + ((j : Int) + 1)) n) (rs0 src (mdS (lo + ((j : Int) + 1)) n dn)) st) → Calls Try.prog 69 #[.slice Ae st ce, .slice Be st de] w fun e w' => e = .returned (.bool sm) ∧ Below w.heap.size w w' from fun w h1 h2 => by have q := sliceEqual_any Ae Be ce de st _ _ w h1 h2 (trE_len _ _ _ _ _ _ _) (trE_len _ _ _ _ _ _ _); rw [se] at q; exact q)
          have hT : trd ⟨xk, xd, xl, xh⟩ ⟨yk, yd, yl, yh⟩ = if xh < yl then 1 else if yh < xl then -1 else 0 := rfl
          rw [hT] at hS
          have HS := Lib.hid hS; clear hS hT hx hy_ hsm se ra rb
          have gi : ii < (k : Int) := by omega
          have gi0 : (0 : Int) ≤ ii := by omega
          have gi3 : ii.toNat = j + 1 := by omega
          have gj : (j : Int) < (k : Int) := by omega
          have gj0 : (0 : Int) ≤ j := by omega
          have lb1 : b1 < wr.heap.size := by omega
          have lb2 : b2 < wr.heap.size := by omega
          have lb1a : b1 < wr.heap.size + 1 := by omega
          go_upto_region 21 with fail
          go_cut [28, 29] (fun p q wx => ∃ ra rb, p = .pointer (some ⟨ra, 0, none⟩) ∧ q = .pointer (some ⟨rb, 0, none⟩) ∧ Below wr.heap.size wr wx ∧ ra < wx.heap.size ∧ rb < wx.heap.size ∧ wr.heap.size ≤ ra ∧ wr.heap.size ≤ rb ∧ wx.cell? ⟨ra, 0, none⟩ = some (.int .i64 xl) ∧ wx.cell? ⟨ra, 1, none⟩ = some (.int .i64 xh) ∧ wx.cell? ⟨rb, 0, none⟩ = some (.int .i64 yl) ∧ wx.cell? ⟨rb, 1, none⟩ = some (.int .i64 yh))
          case first =>
            have wi : IntKind.i64.wrap (ii - 1) = (j : Int) := by rw [show ii - 1 = (j : Int) by omega]; exact IntWalk.i64_in _ (by omega)
            go_region
            all_goals go_wp2_with fail
            all_goals go_meet
            all_goals exact ⟨_, _, rfl, rfl, (by go_grown), by first | omega | (simp; done) | (simp; omega), by first | omega | (simp; done) | (simp; omega), by first | omega | (simp; done) | (simp; omega), by first | omega | (simp; done) | (simp; omega), by simp [*, go_sem], by simp [*, go_sem], by simp [*, go_sem], by simp [*, go_sem]⟩
          case rest =>
            obtain ⟨ra, rb, rfl, rfl, hF⟩ := hcut
            revert hF; generalize wc = wx; rintro ⟨hbx, lta, ltb, loa, lob, xa0, xa1, ya0, ya1⟩
            have gg0 := (bAt hbx (b := b2) (o := o2 + j * 3) lb2).trans fg0
            have gg1 := (bAt hbx (b := b2) (o := o2 + (j + 1) * 3) lb2).trans fg1
            have J0 := Lib.hid (I0.out.below hbx (Nat.le_refl _)); have J1 := Lib.hid (I1.out.below hbx (Nat.le_refl _)); have sx := hbx.size; have HBx := Lib.hid hbx; clear hbx fe0 fe1 fe2 fe3 fg0 fg1 I0 I1
            have lb3 : b2 < wx.heap.size := by omega
            go_upto_region 22 with fail
            have wi : IntKind.i64.wrap (ii - 1) = (j : Int) := by rw [show ii - 1 = (j : Int) by omega]; exact IntWalk.i64_in _ (by omega)
            go_region_held3 (fun w' => w'.cell? ⟨b2, o2 + j * 3, none⟩ = some (.slice Ae st ce) ∧ w'.cell? ⟨b2, o2 + (j + 1) * 3, none⟩ = some (.slice Be st de)) (first | (go_keep; done) | (simp [*, go_sem]; done))
              (first
                | (go_at_call 69; refine (EQ.out _ (J0.out.below (B := wx.heap.size) (by first | exact Below.refl _ _ | (go_grown; done) | exact bdrewN (by go_grown) _) (Nat.le_refl _)) (J1.out.below (B := wx.heap.size) (by first | exact Below.refl _ _ | (go_grown; done) | exact bdrewN (by go_grown) _) (Nat.le_refl _))).mono ?_; rintro e wy ⟨rfl, hby⟩; obtain ⟨hcy, hfy⟩ := bcell hby; (try simp only [World.size_alloc, World.size_drew, size_set] at hcy); (try simp only [World.size_alloc, World.size_drew, size_set] at hfy); have hzy := hby.size; (try simp only [World.size_alloc, World.size_drew, size_set] at hzy); have BB := Lib.hid ((show Below wx.heap.size wx _ from (by first | exact Below.refl _ _ | (go_grown; done) | exact bdrewN (by go_grown) _)).trans (hby.mono (by first | omega | (simp; done) | (simp; omega)))); clear hby))
            clear wi
            refine genS (S := fun w' => Below wo.heap.size wo w' ∧ w'.cell? ⟨ra, 0, none⟩ = some (.int .i64 xl) ∧ w'.cell? ⟨ra, 1, none⟩ = some (.int .i64 xh) ∧ w'.cell? ⟨rb, 0, none⟩ = some (.int .i64 yl) ∧ w'.cell? ⟨rb, 1, none⟩ = some (.int .i64 yh)) ⟨(by have hb_ := HBq.out.trans ((HBx.out.trans (BB.out.mono sx)).mono sq); first | with_reducible exact hb_ | (go_grown; done) | exact bdrewN (by go_grown) _), by (have q := bAt BB.out (b := ra) (o := 0) lta); simp [*, go_sem], by (have q := bAt BB.out (b := ra) (o := 1) lta); simp [*, go_sem], by (have q := bAt BB.out (b := rb) (o := 0) ltb); simp [*, go_sem], by (have q := bAt BB.out (b := rb) (o := 1) ltb); simp [*, go_sem]⟩ ?_
            clear xa0 xa1 ya0 ya1 gg0 gg1
            rintro wz ⟨Bz, xa0, xa1, ya0, ya1⟩
            have HBz := Lib.hid Bz; clear Bz
            have hla : la = -1 ∨ la = 0 ∨ la = 1 := by omega
            rcases sm with _ | _
            · rcases hla with rfl | rfl | rfl
              · have HN : Hid (ccTo ds ss src n lo dn st (j + 1) = (cn, 0)) := Lib.hid (by rw [HS.out]; simp [stC, *])
                go_wp2
                go_roundw
                case rel => exact ⟨by have hb_ := HBz.out; first | with_reducible exact hb_ | (go_grown; done) | exact bdrewN (by go_grown) _, j + 1, ii + 1, cn, 0, by omega, by omega, by omega, by first | go_num | rfl, Lib.hid HN.out, rfl, rfl⟩
                case measure => simp [intOf]; omega
              · have HN : Hid (ccTo ds ss src n lo dn st (j + 1) = (cn, 0)) := Lib.hid (by rw [HS.out]; simp [stC, *])
                go_wp2
                go_roundw
                case rel => exact ⟨by have hb_ := HBz.out; first | with_reducible exact hb_ | (go_grown; done) | exact bdrewN (by go_grown) _, j + 1, ii + 1, cn, 0, by omega, by omega, by omega, by first | go_num | rfl, Lib.hid HN.out, rfl, rfl⟩
                case measure => simp [intOf]; omega
              · have HN : Hid (ccTo ds ss src n lo dn st (j + 1) = (cn, 0)) := Lib.hid (by rw [HS.out]; simp [stC, *])
                go_wp2
                go_roundw
                case rel => exact ⟨by have hb_ := HBz.out; first | with_reducible exact hb_ | (go_grown; done) | exact bdrewN (by go_grown) _, j + 1, ii + 1, cn, 0, by omega, by omega, by omega, by first | go_num | rfl, Lib.hid HN.out, rfl, rfl⟩
                case measure => simp [intOf]; omega
            · by_cases p1 : xh < yl
              · rcases hla with rfl | rfl | rfl
                · have HN : Hid (ccTo ds ss src n lo dn st (j + 1) = ((cn + 1), 1)) := Lib.hid (by rw [HS.out]; simp [stC, *])
                  go_wp2
                  go_roundw
                  case rel => exact ⟨by have hb_ := HBz.out; first | with_reducible exact hb_ | (go_grown; done) | exact bdrewN (by go_grown) _, j + 1, ii + 1, (cn + 1), 1, by omega, by omega, by omega, by first | go_num | rfl, Lib.hid HN.out, rfl, rfl⟩
                  case measure => simp [intOf]; omega
                · have HN : Hid (ccTo ds ss src n lo dn st (j + 1) = (cn, 1)) := Lib.hid (by rw [HS.out]; simp [stC, *])
                  go_wp2
                  go_roundw
                  case rel => exact ⟨by have hb_ := HBz.out; first | with_reducible exact hb_ | (go_grown; done) | exact bdrewN (by go_grown) _, j + 1, ii + 1, cn, 1, by omega, by omega, by omega, by first | go_num | rfl, Lib.hid HN.out, rfl, rfl⟩
                  case measure => simp [intOf]; omega
                · have HN : Hid (ccTo ds ss src n lo dn st (j + 1) = (cn, 1)) := Lib.hid (by rw [HS.out]; simp [stC, *])
                  go_wp2
                  go_roundw
                  case rel => exact ⟨by have hb_ := HBz.out; first | with_reducible exact hb_ | (go_grown; done) | exact bdrewN (by go_grown) _, j + 1, ii + 1, cn, 1, by omega, by omega, by omega, by first | go_num | rfl, Lib.hid HN.out, rfl, rfl⟩
                  case measure => simp [intOf]; omega
              · by_cases p2 : yh < xl
                · rcases hla with rfl | rfl | rfl
                  · have HN : Hid (ccTo ds ss src n lo dn st (j + 1) = (cn, (-1))) := Lib.hid (by rw [HS.out]; simp [stC, *])
                    go_wp2
                    go_roundw
                    case rel => exact ⟨by have hb_ := HBz.out; first | with_reducible exact hb_ | (go_grown; done) | exact bdrewN (by go_grown) _, j + 1, ii + 1, cn, (-1), by omega, by omega, by omega, by first | go_num | rfl, Lib.hid HN.out, rfl, rfl⟩
                    case measure => simp [intOf]; omega
                  · have HN : Hid (ccTo ds ss src n lo dn st (j + 1) = (cn, (-1))) := Lib.hid (by rw [HS.out]; simp [stC, *])
                    go_wp2
                    go_roundw
                    case rel => exact ⟨by have hb_ := HBz.out; first | with_reducible exact hb_ | (go_grown; done) | exact bdrewN (by go_grown) _, j + 1, ii + 1, cn, (-1), by omega, by omega, by omega, by first | go_num | rfl, Lib.hid HN.out, rfl, rfl⟩
                    case measure => simp [intOf]; omega
                  · have HN : Hid (ccTo ds ss src n lo dn st (j + 1) = ((cn + 1), (-1))) := Lib.hid (by rw [HS.out]; simp [stC, *])
                    go_wp2
                    go_roundw
                    case rel => exact ⟨by have hb_ := HBz.out; first | with_reducible exact hb_ | (go_grown; done) | exact bdrewN (by go_grown) _, j + 1, ii + 1, (cn + 1), (-1), by omega, by omega, by omega, by first | go_num | rfl, Lib.hid HN.out, rfl, rfl⟩
                    case measure => simp [intOf]; omega
                · rcases hla with rfl | rfl | rfl
                  · have HN : Hid (ccTo ds ss src n lo dn st (j + 1) = (cn, (-1))) := Lib.hid (by rw [HS.out]; simp [stC, *])
                    go_wp2
                    go_roundw
                    case rel => exact ⟨by have hb_ := HBz.out; first | with_reducible exact hb_ | (go_grown; done) | exact bdrewN (by go_grown) _, j + 1, ii + 1, cn, (-1), by omega, by omega, by omega, by first | go_num | rfl, Lib.hid HN.out, rfl, rfl⟩
                    case measure => simp [intOf]; omega
                  · have HN : Hid (ccTo ds ss src n lo dn st (j + 1) = (cn, 0)) := Lib.hid (by rw [HS.out]; simp [stC, *])
                    go_wp2
                    go_roundw
                    case rel => exact ⟨by have hb_ := HBz.out; first | with_reducible exact hb_ | (go_grown; done) | exact bdrewN (by go_grown) _, j + 1, ii + 1, cn, 0, by omega, by omega, by omega, by first | go_num | rfl, Lib.hid HN.out, rfl, rfl⟩
                    case measure => simp [intOf]; omega
                  · have HN : Hid (ccTo ds ss src n lo dn st (j + 1) = (cn, 1)) := Lib.hid (by rw [HS.out]; simp [stC, *])
                    go_wp2
                    go_roundw
                    case rel => exact ⟨by have hb_ := HBz.out; first | with_reducible exact hb_ | (go_grown; done) | exact bdrewN (by go_grown) _, j + 1, ii + 1, cn, 1, by omega, by omega, by omega, by first | go_num | rfl, Lib.hid HN.out, rfl, rfl⟩
                    case measure => simp [intOf]; omega
        · obtain rfl : j = K := by omega
          have gx : ¬ (ii < (k : Int)) := by omega
          go_wp2
          go_ret2
          exact ⟨by rw [hcc.out] <;> rfl, HB4.out.trans ((HBr.out.trans (HBq.out.mono (by omega))).mono (by omega))⟩
end

section
set_option linter.unusedSimpArgs false
set_option linter.unusedVariables false
open Go.RowKit
set_option maxHeartbeats 4000000 in
theorem implCaus_any (A1 A2 : Option Addr) (c1 c2 : Nat) (ds ss : List Int) (src n lo hi : Int) (dn : Bool) (st : Int) (w : World) (h : ProfAt w A1 c1 A2 c2 ds ss) :
    Calls Try.prog 24 #[profV A1 ds.length c1 A2 ss.length c2, .int .i64 src, .int .i64 n, .int .i64 lo, .int .i64 hi, .bool dn, .int .i64 st] w fun e w' => e = .returned (.tuple #[.int .i64 (ccV ds ss src n lo hi dn st), .int .i64 (faE ds ss src n lo hi st)]) ∧ Below w.heap.size w w' := by
  by_cases hc : faE ds ss src n lo hi st = 0
  · obtain ⟨hp, hf, u0, u1, m, rfl, hm⟩ := fa_zero hc
    obtain ⟨K, hK⟩ : ∃ K : Nat, (hi - lo).toNat = K := ⟨_, rfl⟩
    have kl := (fan_ok hf).l1
    have eV := cc_ok dn hc
    rw [hK] at eV
    rw [eV, hc]
    exact implCaus_ok A1 A2 c1 c2 ds ss src n lo hi dn m K w h hp hf u0 u1 hm (by omega) (by omega)
  · have e := cc_no dn hc
    have hE2 : (faE ds ss src n lo hi st != 0) = true := by simpa using hc
    have EE := Lib.hid e; have H := Lib.hid h; clear e h hc
    go_enter Try.func24, Try.ntmps24
    go_wp2_with (go_at_call 65; refine (fanCode_any _ _ _ _ _ _ _ _ _ _ _ _ (H.out.below (B := w.heap.size) (by first | exact Below.refl _ _ | (go_grown; done) | exact bdrewN (by go_grown) _) (Nat.le_refl _))).mono ?_; rintro e w1 ⟨rfl, hb1⟩; obtain ⟨B1, hz1, q1, s1, t1, x1, y1, z1⟩ := bkeep (w := w) [w.heap.size] (by first | (simp; done) | (simp; omega)) (by first | (go_grown; done) | exact bdrewN (by go_grown) _) hb1; (try simp at hz1); clear hb1)
    go_ret2
    exact ⟨by rw [EE.out] <;> rfl, (by first | with_reducible exact B1 | (go_grown; done) | with_reducible exact bdrewN B1 _ | (go_grown <;> first | with_reducible exact bdrewN B1 _ | with_reducible exact B1))⟩
set_option maxHeartbeats 2000000 in
theorem lawCountCaustics_any (A1 A2 : Option Addr) (c1 c2 : Nat) (ds ss : List Int) (src n lo hi : Int) (dn : Bool) (st : Int) (w : World) (h : ProfAt w A1 c1 A2 c2 ds ss) :
    Calls Try.prog 6 #[profV A1 ds.length c1 A2 ss.length c2, .int .i64 src, .int .i64 n, .int .i64 lo, .int .i64 hi, .bool dn, .int .i64 st] w fun e w' => e = .returned (.bool true) ∧ Below w.heap.size w w' := by
  have hn1 := Nat.le_trans h.1.1 h.1.2.1
  have hn2 := Nat.le_trans h.2.1 h.2.2.1
  have H1 := Lib.hid h.1; have H2 := Lib.hid h.2; clear h
  by_cases hs0 : ¬ (1048576 : Int) - ds.length < 0
  · skip
    by_cases hs1 : ¬ (1048576 : Int) - ds.length - ss.length < 0
    · skip
      go_enter Try.func6, Try.ntmps6
      go_wp2_with fail
      refine (szProfile_any _ _ _ _ _ _ _ _ (by omega) (by omega) hn1 hn2).mono ?_; rintro e w1 ⟨rfl, hb1⟩
      obtain ⟨T1, z1, q1, s1, x1, y1⟩ := lkeep (w := w) [w.heap.size] (by first | (simp; done) | (simp; omega)) (by first | exact Below.refl _ _ | (go_grown; done)) hb1
      (try simp only [World.size_alloc, World.size_drew, size_set] at z1)
      have S1 := Lib.hid T1; clear T1 hb1
      have B1 := Lib.hid S1.out
      have b1 : w.heap.size ≤ w1.heap.size := B1.out.size
      go_wp2_with fail
      refine (toProfile_any _ _ _ _ _ _ _ ((H1.out.below B1.out (Nat.le_refl _)).below (B := w1.heap.size) (by first | exact Below.refl _ _ | (go_grown; done)) (Nat.le_refl _)) ((H2.out.below B1.out (Nat.le_refl _)).below (B := w1.heap.size) (by first | exact Below.refl _ _ | (go_grown; done)) (Nat.le_refl _)) (by omega) (by omega)).mono ?_; rintro e w2 ⟨⟨g2, g2x, rfl, R2⟩, hb2⟩
      obtain ⟨T2, z2, q2, s2, x2, y2⟩ := lkeep (w := w1) [w.heap.size] (by first | (simp; done) | (simp; omega)) (by first | exact Below.refl _ _ | (go_grown; done)) hb2
      (try simp only [World.size_alloc, World.size_drew, size_set] at z2)
      have S2 := Lib.hid T2; clear T2 hb2
      have B2 := Lib.hid (B1.out.trans (S2.out.mono (by omega)))
      have b2 : w.heap.size ≤ w2.heap.size := B2.out.size
      have M0_2 := Lib.hid (R2.mono (show w1.heap.size ≤ _ by first | (simp; done) | (simp; omega)) (Nat.le_refl _)); clear R2
      go_wp2_with fail
      refine (specCaus_any _ _ _ _ _ _ _ _ _ _ _ _ _ (M0_2.out.at.below (B := w2.heap.size) (by first | exact Below.refl _ _ | (go_grown; done)) (Nat.le_refl _))).mono ?_; rintro e w3 ⟨rfl, hb3⟩
      obtain ⟨T3, z3, q3, s3, x3, y3⟩ := lkeep (w := w2) [w.heap.size] (by first | (simp; done) | (simp; omega)) (by first | exact Below.refl _ _ | (go_grown; done)) hb3
      (try simp only [World.size_alloc, World.size_drew, size_set] at z3)
      have S3 := Lib.hid T3; clear T3 hb3
      have B3 := Lib.hid (B2.out.trans (S3.out.mono (by omega)))
      have b3 : w.heap.size ≤ w3.heap.size := B3.out.size
      have M0_3 := Lib.hid (M0_2.out.below S3.out (by omega))
      go_wp2_with fail
      refine (toProfile_any _ _ _ _ _ _ _ ((H1.out.below B3.out (Nat.le_refl _)).below (B := w3.heap.size) (by first | exact Below.refl _ _ | (go_grown; done)) (Nat.le_refl _)) ((H2.out.below B3.out (Nat.le_refl _)).below (B := w3.heap.size) (by first | exact Below.refl _ _ | (go_grown; done)) (Nat.le_refl _)) (by omega) (by omega)).mono ?_; rintro e w4 ⟨⟨g4, g4x, rfl, R4⟩, hb4⟩
      obtain ⟨T4, z4, q4, s4, x4, y4⟩ := lkeep (w := w3) [w.heap.size] (by first | (simp; done) | (simp; omega)) (by first | exact Below.refl _ _ | (go_grown; done)) hb4
      (try simp only [World.size_alloc, World.size_drew, size_set] at z4)
      have S4 := Lib.hid T4; clear T4 hb4
      have B4 := Lib.hid (B3.out.trans (S4.out.mono (by omega)))
      have b4 : w.heap.size ≤ w4.heap.size := B4.out.size
      have X0_4 := Lib.hid (R4.mono (show w3.heap.size ≤ _ by first | (simp; done) | (simp; omega)) (Nat.le_refl _)); clear R4
      go_wp2_with fail
      refine (implCaus_any _ _ _ _ _ _ _ _ _ _ _ _ _ (X0_4.out.at.below (B := w4.heap.size) (by first | exact Below.refl _ _ | (go_grown; done)) (Nat.le_refl _))).mono ?_; rintro e w5 ⟨rfl, hb5⟩
      obtain ⟨T5, z5, q5, s5, x5, y5⟩ := lkeep (w := w4) [w.heap.size, w4.heap.size] (by first | (simp; done) | (simp; omega)) (by first | exact Below.refl _ _ | (go_grown; done)) hb5
      (try simp only [World.size_alloc, World.size_drew, size_set] at z5)
      have S5 := Lib.hid T5; clear T5 hb5
      have B5 := Lib.hid (B4.out.trans (S5.out.mono (by omega)))
      have b5 : w.heap.size ≤ w5.heap.size := B5.out.size
      have X0_5 := Lib.hid (X0_4.out.below S5.out (by omega))
      go_wp2_with fail
      go_region_held3 (fun w' => w'.cell? ⟨w.heap.size, 0, none⟩ = some (.slice A1 ds.length c1) ∧ w'.cell? ⟨w.heap.size, 1, none⟩ = some (.slice A2 ss.length c2) ∧ w'.cell? ⟨w4.heap.size, 0, none⟩ = some (.slice (some ⟨g4, 0, none⟩) ds.length ds.length) ∧ w'.cell? ⟨w4.heap.size, 1, none⟩ = some (.slice (some ⟨g4x, 0, none⟩) ss.length ss.length)) (first | (go_keep; done) | (simp [*, go_sem]; done))
        (first
          | (go_at_call 14; refine (toProfile_any _ _ _ _ _ _ _ ((H1.out.below B5.out (Nat.le_refl _)).below (B := w5.heap.size) (by first | exact Below.refl _ _ | (go_grown; done)) (Nat.le_refl _)) ((H2.out.below B5.out (Nat.le_refl _)).below (B := w5.heap.size) (by first | exact Below.refl _ _ | (go_grown; done)) (Nat.le_refl _)) (by omega) (by omega)).mono ?_; rintro e w6 ⟨⟨g6, g6x, rfl, R6⟩, hb6⟩; obtain ⟨T6, z6, q6, s6, x6, y6⟩ := lkeep (w := w5) [w.heap.size, w4.heap.size] (by first | (simp; done) | (simp; omega)) (by first | exact Below.refl _ _ | (go_grown; done)) hb6; (try simp only [World.size_alloc, World.size_drew, size_set] at z6); have S6 := Lib.hid T6; clear T6 hb6; have B6 := Lib.hid (B5.out.trans (S6.out.mono (by omega))); have b6 : w.heap.size ≤ w6.heap.size := B6.out.size; have X0_6 := Lib.hid (X0_5.out.below S6.out (by omega)); have Y_6 := Lib.hid (R6.mono (show w5.heap.size ≤ _ by first | (simp; done) | (simp; omega)) (Nat.le_refl _)); clear R6)
          | (go_at_call 18; refine (eqProfile_same _ _ _ _ _ _ _ _ _ _ _ (X0_6.out.at.below (B := w6.heap.size) (by first | exact Below.refl _ _ | (go_grown; done)) (Nat.le_refl _)) (Y_6.out.at.below (B := w6.heap.size) (by first | exact Below.refl _ _ | (go_grown; done)) (Nat.le_refl _))).mono ?_; rintro e w7 ⟨rfl, hb7⟩; obtain ⟨T7, z7, q7, s7, x7, y7⟩ := lkeep (w := w6) [w.heap.size, w4.heap.size] (by first | (simp; done) | (simp; omega)) (by first | exact Below.refl _ _ | (go_grown; done)) hb7; (try simp only [World.size_alloc, World.size_drew, size_set] at z7); have S7 := Lib.hid T7; clear T7 hb7; have B7 := Lib.hid (B6.out.trans (S7.out.mono (by omega))); have b7 : w.heap.size ≤ w7.heap.size := B7.out.size; have X0_7 := Lib.hid (X0_6.out.below S7.out (by omega))))
      go_wp2_with fail
      go_ret
      exact ⟨rfl, B7.out⟩
    · skip
      go_enter Try.func6, Try.ntmps6
      go_wp2_with fail
      (refine (szProfile_any _ _ _ _ _ _ _ _ (by omega) (by omega) hn1 hn2).mono ?_; rintro e w1 ⟨rfl, hb1⟩; obtain ⟨B1, hz1, q1, s1, t1, x1, y1, z1⟩ := bkeep (w := w) [w.heap.size] (by first | (simp; done) | (simp; omega)) (by first | (go_grown; done) | exact bdrewN (by go_grown) _) hb1; (try simp at hz1); clear hb1)
      go_wp2
      go_ret
      exact ⟨rfl, B1⟩
  · skip
    go_enter Try.func6, Try.ntmps6
    go_wp2_with fail
    (refine (szProfile_any _ _ _ _ _ _ _ _ (by omega) (by omega) hn1 hn2).mono ?_; rintro e w1 ⟨rfl, hb1⟩; obtain ⟨B1, hz1, q1, s1, t1, x1, y1, z1⟩ := bkeep (w := w) [w.heap.size] (by first | (simp; done) | (simp; omega)) (by first | (go_grown; done) | exact bdrewN (by go_grown) _) hb1; (try simp at hz1); clear hb1)
    go_wp2
    go_ret
    exact ⟨rfl, B1⟩
end

section
set_option linter.unusedSimpArgs false
set_option linter.unusedVariables false
open Go.RowKit

theorem fv_good {ds ss : List Int} {src n lo hi : Int} {dn : Bool} {st kn di : Int} (h : fvE ds ss src n lo hi st kn di = 0) : ((fvL ds ss src n lo hi dn st kn di).length : Int) = hi - lo ∧ 1 ≤ lo ∧ hi ≤ 31 := by
  have g := h
  unfold fvE at g
  split at g
  · rename_i h2
    obtain ⟨-, hf, -⟩ := fa_zero h2
    have f := fan_ok hf
    have a := f.l0; have b := f.l1; have c := f.h1; have d := f.n1
    unfold fvL
    rw [if_pos h, fvTo_len]
    exact ⟨by omega, by omega, by omega⟩
  · rename_i h2; exact absurd g h2
theorem cc_good {ds ss : List Int} {src n lo hi : Int} {dn : Bool} {st : Int} (h : faE ds ss src n lo hi st = 0) : 0 ≤ ccV ds ss src n lo hi dn st ∧ 1 ≤ lo ∧ lo ≤ hi ∧ hi ≤ 31 ∧ (ccV ds ss src n lo hi dn st ≤ hi - lo - 1 ∨ ccV ds ss src n lo hi dn st ≤ 0) := by
  obtain ⟨-, hf, -, -, m, rfl, -⟩ := fa_zero h
  have f := fan_ok hf
  have a := f.l0; have b := f.l1; have c := f.h1; have d := f.n1
  rw [cc_ok dn h]
  obtain ⟨K, hK⟩ : ∃ K : Nat, (hi - lo).toNat = K := ⟨_, rfl⟩
  rw [hK]
  have e := cc_bd ds ss src n lo dn m K
  refine ⟨e.1, a, b, by omega, ?_⟩
  cases K with
  | zero => right; have := e.2.1; simpa using this
  | succ k => left; have := cc_bd2 ds ss src n lo dn m k; omega
set_option maxRecDepth 100000 in
set_option maxHeartbeats 16000000 in
theorem lawOpenCells_any (A : Option Addr) (c : Nat) (xs : List Int) (w : World) (h : BytesAt w A c xs) :
    Calls Try.prog 11 #[.slice A xs.length c] w fun e w' => e = .returned (.bool true) ∧ Below w.heap.size w w' := by
  have hn := Nat.le_trans h.1 h.2.1
  have H := Lib.hid h; clear h
  by_cases hbig : (4096 : Int) < xs.length
  · go_enter Try.func11, Try.ntmps11
    go_wp2_with (go_at_call 25; refine (big_any _ _ _ _ hn).mono ?_; rintro e w' ⟨rfl, rfl⟩)
    go_ret
    exact ⟨rfl, Below.refl _ _⟩
  · go_enter Try.func11, Try.ntmps11
    go_wp2_with (go_at_call 25; refine (big_any _ _ _ _ hn).mono ?_; rintro e w' ⟨rfl, rfl⟩)
    refine (drawOpenCells_any A c xs _ H.out).mono ?_
    rintro e w3 ⟨⟨A1, c1, A2, c2, ts, ls, src, n, lo, hi, dn, st, kn, di, rfl, rp⟩, hb3⟩
    have P := Lib.hid rp.at; clear rp
    have HX := Lib.hid (H.out.below hb3 (Nat.le_refl _))
    have B3 := Lib.hid hb3; clear hb3
    obtain ⟨ev, hev⟩ : ∃ x, fvE ts ls src n lo hi st kn di = x := ⟨_, rfl⟩
    obtain ⟨OL, hOL⟩ : ∃ x, ocL ts ls src n lo hi dn st kn di = x := ⟨_, rfl⟩
    obtain ⟨FL, hFL⟩ : ∃ x, fvL ts ls src n lo hi dn st kn di = x := ⟨_, rfl⟩
    have O1 := Lib.hid (show ∀ w, ProfAt w A1 c1 A2 c2 ts ls → Calls Try.prog 36 #[profV A1 ts.length c1 A2 ls.length c2, .int .i64 src, .int .i64 n, .int .i64 lo, .int .i64 hi, .bool dn, .int .i64 st, .int .i64 kn, .int .i64 di] w fun e w' => (∃ A' c', e = .returned (.tuple #[.slice A' OL.length c', .int .i64 ev]) ∧ ResI w' w.heap.size w'.heap.size A' c' OL) ∧ Below w.heap.size w w' from fun w h => by have q := implOpen9_any A1 A2 c1 c2 ts ls src n lo hi dn st kn di w h; rw [hOL, hev] at q; exact q)
    have O2 := Lib.hid (show ∀ w, ProfAt w A1 c1 A2 c2 ts ls → Calls Try.prog 35 #[profV A1 ts.length c1 A2 ls.length c2, .int .i64 src, .int .i64 n, .int .i64 lo, .int .i64 hi, .bool dn, .int .i64 st, .int .i64 kn, .int .i64 di] w fun e w' => (∃ A' c', e = .returned (.tuple #[.slice A' OL.length c', .int .i64 ev]) ∧ ResI w' w.heap.size w'.heap.size A' c' OL) ∧ Below w.heap.size w w' from fun w h => by have q := specOpen9_any A1 A2 c1 c2 ts ls src n lo hi dn st kn di w h; rw [hOL, hev] at q; exact q)
    have F1 := Lib.hid (show ∀ w, ProfAt w A1 c1 A2 c2 ts ls → Calls Try.prog 30 #[profV A1 ts.length c1 A2 ls.length c2, .int .i64 src, .int .i64 n, .int .i64 lo, .int .i64 hi, .bool dn, .int .i64 st, .int .i64 kn, .int .i64 di] w fun e w' => (∃ A' c', e = .returned (.tuple #[.slice A' FL.length c', .int .i64 ev]) ∧ ResI w' w.heap.size w'.heap.size A' c' FL) ∧ Below w.heap.size w w' from fun w h => by have q := implFan_any A1 A2 c1 c2 ts ls src n lo hi dn st kn di w h; rw [hFL, hev] at q; exact q)
    have F2 := Lib.hid (show ∀ w, ProfAt w A1 c1 A2 c2 ts ls → Calls Try.prog 29 #[profV A1 ts.length c1 A2 ls.length c2, .int .i64 src, .int .i64 n, .int .i64 lo, .int .i64 hi, .bool dn, .int .i64 st, .int .i64 kn, .int .i64 di] w fun e w' => (∃ A' c', e = .returned (.tuple #[.slice A' FL.length c', .int .i64 ev]) ∧ ResI w' w.heap.size w'.heap.size A' c' FL) ∧ Below w.heap.size w w' from fun w h => by have q := specFan_any A1 A2 c1 c2 ts ls src n lo hi dn st kn di w h; rw [hFL, hev] at q; exact q)
    have EV := Lib.hid (show ev = 0 → (FL.length : Int) = hi - lo ∧ 1 ≤ lo ∧ hi ≤ 31 from fun e => by rw [← hFL]; exact fv_good (hev.trans e))
    have OC := Lib.hid (show OL = ocTo FL lo FL.length by rw [← hOL, ← hFL]; exact oc_is ts ls src n lo hi dn st kn di)
    clear hev hOL hFL
    go_wp2_with fail
    refine (O1.out _ (P.out.below (B := w3.heap.size) (by first | exact Below.refl _ _ | (go_grown; done) | exact bdrewN (by go_grown) _) (Nat.le_refl _))).mono ?_
    rintro e w4 ⟨⟨A3, c3, rfl, ri3⟩, hb4⟩
    have P := Lib.hid (((P.out).below (B := w3.heap.size) (by first | exact Below.refl _ _ | (go_grown; done) | exact bdrewN (by go_grown) _) (Nat.le_refl _)).below hb4 (Nat.le_refl _))
    have HX := Lib.hid (((HX.out).below (B := w3.heap.size) (by first | exact Below.refl _ _ | (go_grown; done) | exact bdrewN (by go_grown) _) (Nat.le_refl _)).below hb4 (Nat.le_refl _))
    have L3 := Lib.hid (ri3.at)
    obtain ⟨B4, hz4, q4, s4, t4, x4, y4, z4⟩ := bkeep (w := w3) [w3.heap.size] (by first | (simp; done) | (simp; omega)) (by first | (go_grown; done) | exact bdrewN (by go_grown) _) hb4; (try simp at hz4); clear hb4
    clear ri3
    go_wp2_with fail
    refine (O2.out _ (P.out.below (B := w4.heap.size) (by first | exact Below.refl _ _ | (go_grown; done) | exact bdrewN (by go_grown) _) (Nat.le_refl _))).mono ?_
    rintro e w5 ⟨⟨A4, c4, rfl, ri4⟩, hb5⟩
    have P := Lib.hid (((P.out).below (B := w4.heap.size) (by first | exact Below.refl _ _ | (go_grown; done) | exact bdrewN (by go_grown) _) (Nat.le_refl _)).below hb5 (Nat.le_refl _))
    have HX := Lib.hid (((HX.out).below (B := w4.heap.size) (by first | exact Below.refl _ _ | (go_grown; done) | exact bdrewN (by go_grown) _) (Nat.le_refl _)).below hb5 (Nat.le_refl _))
    have L3 := Lib.hid (((L3.out).below (B := w4.heap.size) (by first | exact Below.refl _ _ | (go_grown; done) | exact bdrewN (by go_grown) _) (Nat.le_refl _)).below hb5 (Nat.le_refl _))
    have L4 := Lib.hid (ri4.at)
    obtain ⟨B5, hz5, q5, s5, t5, x5, y5, z5⟩ := bkeep (w := w3) [w3.heap.size] (by first | (simp; done) | (simp; omega)) (by first | (go_grown; done) | exact bdrewN (by go_grown) _) hb5; (try simp at hz5); clear hb5
    clear ri4
    go_wp2_with fail
    refine (drawCountCaustics_any _ _ _ _ (HX.out.below (B := w5.heap.size) (by first | exact Below.refl _ _ | (go_grown; done) | exact bdrewN (by go_grown) _) (Nat.le_refl _))).mono ?_
    rintro e w6 ⟨⟨B1, d1, B2, d2, us, ms, qs, qn, qa, qb, qd, qt, rfl, rq⟩, hb6⟩
    have P := Lib.hid (((P.out).below (B := w5.heap.size) (by first | exact Below.refl _ _ | (go_grown; done) | exact bdrewN (by go_grown) _) (Nat.le_refl _)).below hb6 (Nat.le_refl _))
    have HX := Lib.hid (((HX.out).below (B := w5.heap.size) (by first | exact Below.refl _ _ | (go_grown; done) | exact bdrewN (by go_grown) _) (Nat.le_refl _)).below hb6 (Nat.le_refl _))
    have L3 := Lib.hid (((L3.out).below (B := w5.heap.size) (by first | exact Below.refl _ _ | (go_grown; done) | exact bdrewN (by go_grown) _) (Nat.le_refl _)).below hb6 (Nat.le_refl _))
    have L4 := Lib.hid (((L4.out).below (B := w5.heap.size) (by first | exact Below.refl _ _ | (go_grown; done) | exact bdrewN (by go_grown) _) (Nat.le_refl _)).below hb6 (Nat.le_refl _))
    have Q := Lib.hid (rq.at)
    obtain ⟨B6, hz6, q6, s6, t6, x6, y6, z6⟩ := bkeep (w := w3) [w3.heap.size] (by first | (simp; done) | (simp; omega)) (by first | (go_grown; done) | exact bdrewN (by go_grown) _) hb6; (try simp at hz6); clear hb6
    clear rq
    obtain ⟨cv, hcv⟩ : ∃ x, ccV us ms qs qn qa qb qd qt = x := ⟨_, rfl⟩
    obtain ⟨on, hon⟩ : ∃ x, faE us ms qs qn qa qb qt = x := ⟨_, rfl⟩
    have C1 := Lib.hid (show ∀ w, ProfAt w B1 d1 B2 d2 us ms → Calls Try.prog 24 #[profV B1 us.length d1 B2 ms.length d2, .int .i64 qs, .int .i64 qn, .int .i64 qa, .int .i64 qb, .bool qd, .int .i64 qt] w fun e w' => e = .returned (.tuple #[.int .i64 cv, .int .i64 on]) ∧ Below w.heap.size w w' from fun w h => by have q := implCaus_any B1 B2 d1 d2 us ms qs qn qa qb qd qt w h; rw [hcv, hon] at q; exact q)
    have C2 := Lib.hid (show ∀ w, ProfAt w B1 d1 B2 d2 us ms → Calls Try.prog 23 #[profV B1 us.length d1 B2 ms.length d2, .int .i64 qs, .int .i64 qn, .int .i64 qa, .int .i64 qb, .bool qd, .int .i64 qt] w fun e w' => e = .returned (.tuple #[.int .i64 cv, .int .i64 on]) ∧ Below w.heap.size w w' from fun w h => by have q := specCaus_any B1 B2 d1 d2 us ms qs qn qa qb qd qt w h; rw [hcv, hon] at q; exact q)
    have ON := Lib.hid (show on = 0 → 0 ≤ cv ∧ 1 ≤ qa ∧ qa ≤ qb ∧ qb ≤ 31 ∧ (cv ≤ qb - qa - 1 ∨ cv ≤ 0) from fun e => by rw [← hcv]; exact cc_good (hon.trans e))
    clear hcv hon
    go_wp2_with fail
    refine (C1.out _ (Q.out.below (B := w6.heap.size) (by first | exact Below.refl _ _ | (go_grown; done) | exact bdrewN (by go_grown) _) (Nat.le_refl _))).mono ?_
    rintro e w7 ⟨rfl, hb7⟩
    have P := Lib.hid (((P.out).below (B := w6.heap.size) (by first | exact Below.refl _ _ | (go_grown; done) | exact bdrewN (by go_grown) _) (Nat.le_refl _)).below hb7 (Nat.le_refl _))
    have L3 := Lib.hid (((L3.out).below (B := w6.heap.size) (by first | exact Below.refl _ _ | (go_grown; done) | exact bdrewN (by go_grown) _) (Nat.le_refl _)).below hb7 (Nat.le_refl _))
    have L4 := Lib.hid (((L4.out).below (B := w6.heap.size) (by first | exact Below.refl _ _ | (go_grown; done) | exact bdrewN (by go_grown) _) (Nat.le_refl _)).below hb7 (Nat.le_refl _))
    have Q := Lib.hid (((Q.out).below (B := w6.heap.size) (by first | exact Below.refl _ _ | (go_grown; done) | exact bdrewN (by go_grown) _) (Nat.le_refl _)).below hb7 (Nat.le_refl _))
    obtain ⟨B7, hz7, q7, s7, t7, x7, y7, z7⟩ := bkeep (w := w3) [w3.heap.size, w6.heap.size] (by first | (simp; done) | (simp; omega)) (by first | (go_grown; done) | exact bdrewN (by go_grown) _) hb7; (try simp at hz7); clear hb7
    go_wp2_with fail
    refine (C2.out _ (Q.out.below (B := w7.heap.size) (by first | exact Below.refl _ _ | (go_grown; done) | exact bdrewN (by go_grown) _) (Nat.le_refl _))).mono ?_
    rintro e w8 ⟨rfl, hb8⟩
    have P := Lib.hid (((P.out).below (B := w7.heap.size) (by first | exact Below.refl _ _ | (go_grown; done) | exact bdrewN (by go_grown) _) (Nat.le_refl _)).below hb8 (Nat.le_refl _))
    have L3 := Lib.hid (((L3.out).below (B := w7.heap.size) (by first | exact Below.refl _ _ | (go_grown; done) | exact bdrewN (by go_grown) _) (Nat.le_refl _)).below hb8 (Nat.le_refl _))
    have L4 := Lib.hid (((L4.out).below (B := w7.heap.size) (by first | exact Below.refl _ _ | (go_grown; done) | exact bdrewN (by go_grown) _) (Nat.le_refl _)).below hb8 (Nat.le_refl _))
    have Q := Lib.hid (((Q.out).below (B := w7.heap.size) (by first | exact Below.refl _ _ | (go_grown; done) | exact bdrewN (by go_grown) _) (Nat.le_refl _)).below hb8 (Nat.le_refl _))
    obtain ⟨B8, hz8, q8, s8, t8, x8, y8, z8⟩ := bkeep (w := w3) [w3.heap.size, w6.heap.size] (by first | (simp; done) | (simp; omega)) (by first | (go_grown; done) | exact bdrewN (by go_grown) _) hb8; (try simp at hz8); clear hb8
    go_wp2_with fail
    refine (likeInts_same _ _ _ _ _ _ (L3.out.below (B := w8.heap.size) (by first | exact Below.refl _ _ | (go_grown; done) | exact bdrewN (by go_grown) _) (Nat.le_refl _)) (L4.out.below (B := w8.heap.size) (by first | exact Below.refl _ _ | (go_grown; done) | exact bdrewN (by go_grown) _) (Nat.le_refl _))).mono ?_
    rintro e w9 ⟨rfl, hb9⟩
    have P := Lib.hid (((P.out).below (B := w8.heap.size) (by first | exact Below.refl _ _ | (go_grown; done) | exact bdrewN (by go_grown) _) (Nat.le_refl _)).below hb9 (Nat.le_refl _))
    have L3 := Lib.hid (((L3.out).below (B := w8.heap.size) (by first | exact Below.refl _ _ | (go_grown; done) | exact bdrewN (by go_grown) _) (Nat.le_refl _)).below hb9 (Nat.le_refl _))
    have L4 := Lib.hid (((L4.out).below (B := w8.heap.size) (by first | exact Below.refl _ _ | (go_grown; done) | exact bdrewN (by go_grown) _) (Nat.le_refl _)).below hb9 (Nat.le_refl _))
    obtain ⟨B9, hz9, q9, s9, t9, x9, y9, z9⟩ := bkeep (w := w3) [w3.heap.size, w6.heap.size] (by first | (simp; done) | (simp; omega)) (by first | (go_grown; done) | exact bdrewN (by go_grown) _) hb9; (try simp at hz9); clear hb9
    by_cases h1 : on = 0
    · obtain ⟨f1, f2, f3, f4, f5⟩ := ON.out h1
      subst h1
      have g1 : decide (cv < 0) = false := decide_eq_false (by omega)
      have wa : IntKind.i64.wrap (qb - qa) = qb - qa := IntWalk.i64_in _ (by omega)
      have wb : IntKind.i64.wrap (qb - qa - 1) = qb - qa - 1 := IntWalk.i64_in _ (by omega)
      by_cases hh : 1 < qb - qa
      · have u1 : decide (0 < qb - qa - 1) = true := decide_eq_true (by omega)
        have u2 : decide (qb - qa - 1 < cv) = false := decide_eq_false (by omega)
        have u3 : (cv ≤ qb - qa - 1) = True := eq_true (by omega)
        by_cases he : ev = 0
        rotate_left
        · have he1 : (ev != 0) = true := by simpa using he
          go_wp2
          go_ret
          exact ⟨rfl, B3.out.trans (Below.mono (show Below w3.heap.size w3 _ by first | exact B9 | (go_grown; done) | exact bdrewN B9 _ | exact bdrewN (by go_grown) _ | (go_grown <;> exact bdrewN B9 _)) B3.out.size)⟩
        obtain ⟨e1, e2, e3⟩ := EV.out he
        subst he
        go_wp2_with fail
        refine (F1.out _ (P.out.below (B := w9.heap.size) (by first | exact Below.refl _ _ | (go_grown; done) | exact bdrewN (by go_grown) _) (Nat.le_refl _))).mono ?_
        rintro e w10 ⟨⟨A5, c5, rfl, ri5⟩, hb10⟩
        have P := Lib.hid (((P.out).below (B := w9.heap.size) (by first | exact Below.refl _ _ | (go_grown; done) | exact bdrewN (by go_grown) _) (Nat.le_refl _)).below hb10 (Nat.le_refl _))
        have L3 := Lib.hid (((L3.out).below (B := w9.heap.size) (by first | exact Below.refl _ _ | (go_grown; done) | exact bdrewN (by go_grown) _) (Nat.le_refl _)).below hb10 (Nat.le_refl _))
        have L5 := Lib.hid (ri5.at)
        obtain ⟨B10, hz10, q10, s10, t10, x10, y10, z10⟩ := bkeep (w := w3) [w3.heap.size, w6.heap.size] (by first | (simp; done) | (simp; omega)) (by first | (go_grown; done) | exact bdrewN (by go_grown) _) hb10; (try simp at hz10); clear hb10
        clear ri5
        go_wp2_with fail
        refine (F2.out _ (P.out.below (B := w10.heap.size) (by first | exact Below.refl _ _ | (go_grown; done) | exact bdrewN (by go_grown) _) (Nat.le_refl _))).mono ?_
        rintro e w11 ⟨⟨A6, c6, rfl, ri6⟩, hb11⟩
        have P := Lib.hid (((P.out).below (B := w10.heap.size) (by first | exact Below.refl _ _ | (go_grown; done) | exact bdrewN (by go_grown) _) (Nat.le_refl _)).below hb11 (Nat.le_refl _))
        have L3 := Lib.hid (((L3.out).below (B := w10.heap.size) (by first | exact Below.refl _ _ | (go_grown; done) | exact bdrewN (by go_grown) _) (Nat.le_refl _)).below hb11 (Nat.le_refl _))
        have L5 := Lib.hid (((L5.out).below (B := w10.heap.size) (by first | exact Below.refl _ _ | (go_grown; done) | exact bdrewN (by go_grown) _) (Nat.le_refl _)).below hb11 (Nat.le_refl _))
        have L6 := Lib.hid (ri6.at)
        obtain ⟨B11, hz11, q11, s11, t11, x11, y11, z11⟩ := bkeep (w := w3) [w3.heap.size, w6.heap.size] (by first | (simp; done) | (simp; omega)) (by first | (go_grown; done) | exact bdrewN (by go_grown) _) hb11; (try simp at hz11); clear hb11
        clear ri6
        go_wp2_with fail
        refine (likeInts_same _ _ _ _ _ _ (L5.out.below (B := w11.heap.size) (by first | exact Below.refl _ _ | (go_grown; done) | exact bdrewN (by go_grown) _) (Nat.le_refl _)) (L6.out.below (B := w11.heap.size) (by first | exact Below.refl _ _ | (go_grown; done) | exact bdrewN (by go_grown) _) (Nat.le_refl _))).mono ?_
        rintro e w12 ⟨rfl, hb12⟩
        have P := Lib.hid (((P.out).below (B := w11.heap.size) (by first | exact Below.refl _ _ | (go_grown; done) | exact bdrewN (by go_grown) _) (Nat.le_refl _)).below hb12 (Nat.le_refl _))
        have L3 := Lib.hid (((L3.out).below (B := w11.heap.size) (by first | exact Below.refl _ _ | (go_grown; done) | exact bdrewN (by go_grown) _) (Nat.le_refl _)).below hb12 (Nat.le_refl _))
        have L5 := Lib.hid (((L5.out).below (B := w11.heap.size) (by first | exact Below.refl _ _ | (go_grown; done) | exact bdrewN (by go_grown) _) (Nat.le_refl _)).below hb12 (Nat.le_refl _))
        have L6 := Lib.hid (((L6.out).below (B := w11.heap.size) (by first | exact Below.refl _ _ | (go_grown; done) | exact bdrewN (by go_grown) _) (Nat.le_refl _)).below hb12 (Nat.le_refl _))
        obtain ⟨B12, hz12, q12, s12, t12, x12, y12, z12⟩ := bkeep (w := w3) [w3.heap.size, w6.heap.size] (by first | (simp; done) | (simp; omega)) (by first | (go_grown; done) | exact bdrewN (by go_grown) _) hb12; (try simp at hz12); clear hb12
        have wm : IntKind.i64.wrap (hi - lo) = (FL.length : Int) := by rw [e1]; exact IntWalk.i64_in _ (by omega)
        go_wp2_with fail
        have BB := Lib.hid (show Below w3.heap.size w3 w12 by first | exact B12 | (go_grown; done))
        go_loopw [31] (fun i wr => Below w12.heap.size w12 wr ∧ ∃ k : Nat, k ≤ FL.length ∧ i = .int .i64 k) (fun i _ => FL.length - (intOf i).toNat)
        case atStart => exact ⟨Below.refl _ _, 0, by omega, rfl⟩
        case round =>
          obtain ⟨hbr, k, hk, rfl⟩ := hrel
          have HB := Lib.hid hbr; clear hbr
          by_cases hlt : k < FL.length
          · have wk : IntKind.i64.wrap (lo + (k : Int)) = lo + (k : Int) := IntWalk.i64_in _ (by omega)
            have wk1 : IntKind.i64.wrap ((k : Int) + 1) = ((k + 1 : Nat) : Int) := by rw [IntWalk.i64_in _ (by omega)]; omega
            have hkk : decide ((k : Int) < (FL.length : Int)) = true := decide_eq_true (by omega)
            have hh0 : hasB OL (lo + (k : Int)) = decide (spd FL k ≠ 0) := by rw [OC.out, oc_has]; simp [hlt]
            obtain ⟨b, off, y, rfl, hb, hxk, hc⟩ := (L5.out.below HB.out (Nat.le_refl _)).at_ hlt
            have ey := spd_at hxk
            rw [ey] at hh0
            clear ey hxk
            have hk0 : (0 : Int) ≤ (k : Int) := Int.natCast_nonneg _
            have hk1 : (k : Int) < (FL.length : Int) := by omega
            by_cases hy : y = 0
            · subst hy
              have HI := Lib.hid (show ∀ w, IntsAt w A3 c3 OL → Calls Try.prog 43 #[.slice A3 OL.length c3, .int .i64 (lo + (k : Int))] w fun e w' => e = .returned (.bool false) ∧ Below w.heap.size w w' from fun w h => by have q := hasInt_any A3 c3 OL (lo + (k : Int)) w h; rw [hh0] at q; simpa [] using q)
              clear hh0
              go_wp2_with fail
              go_region_held3 (fun w' => w'.cell? ⟨b, off + k, none⟩ = some (.int .i64 0)) (first | (go_keep; done) | (simp [*, go_sem]; done))
                (first | (go_at_call 43; refine (HI.out _ ((L3.out.below HB.out (Nat.le_refl _)).below (B := wr.heap.size) (by first | exact Below.refl _ _ | exact bdrewN (Below.refl _ _) _ | (go_grown; done)) (Nat.le_refl _))).mono ?_; rintro e w20 ⟨rfl, hb20⟩; have HB20 := Lib.hid ((HB.out.trans (show Below w12.heap.size wr _ from Below.mono (B := wr.heap.size) (by first | exact Below.refl _ _ | exact bdrewN (Below.refl _ _) _ | (go_grown; done)) HB.out.size)).trans (hb20.mono (by have hs_ := HB.out.size; first | omega | (simp; done) | (simp; omega)))); have hc20 : w20.cell? ⟨b, off + k, none⟩ = some (.int .i64 0) := (hb20.cell (p := ⟨b, off + k, none⟩) (by first | exact hb | (simp; done) | (simp; omega))).trans (by first | exact hc | simpa using hc); have hz20 := hb20.size; clear hb20))
              all_goals go_wp2
              all_goals go_roundw
              all_goals first | exact ⟨HB20.out, k + 1, by omega, by first | done | go_num | rfl⟩ | (simp [intOf]; omega)
            · have hy2 : (y != 0) = true := by simpa using hy
              have HI := Lib.hid (show ∀ w, IntsAt w A3 c3 OL → Calls Try.prog 43 #[.slice A3 OL.length c3, .int .i64 (lo + (k : Int))] w fun e w' => e = .returned (.bool true) ∧ Below w.heap.size w w' from fun w h => by have q := hasInt_any A3 c3 OL (lo + (k : Int)) w h; rw [hh0] at q; simpa [hy] using q)
              clear hy
              clear hh0
              go_wp2_with fail
              go_region_held3 (fun w' => w'.cell? ⟨b, off + k, none⟩ = some (.int .i64 y)) (first | (go_keep; done) | (simp [*, go_sem]; done))
                (first | (go_at_call 43; refine (HI.out _ ((L3.out.below HB.out (Nat.le_refl _)).below (B := wr.heap.size) (by first | exact Below.refl _ _ | exact bdrewN (Below.refl _ _) _ | (go_grown; done)) (Nat.le_refl _))).mono ?_; rintro e w20 ⟨rfl, hb20⟩; have HB20 := Lib.hid ((HB.out.trans (show Below w12.heap.size wr _ from Below.mono (B := wr.heap.size) (by first | exact Below.refl _ _ | exact bdrewN (Below.refl _ _) _ | (go_grown; done)) HB.out.size)).trans (hb20.mono (by have hs_ := HB.out.size; first | omega | (simp; done) | (simp; omega)))); have hc20 : w20.cell? ⟨b, off + k, none⟩ = some (.int .i64 y) := (hb20.cell (p := ⟨b, off + k, none⟩) (by first | exact hb | (simp; done) | (simp; omega))).trans (by first | exact hc | simpa using hc); have hz20 := hb20.size; clear hb20))
              all_goals go_wp2
              all_goals go_roundw
              all_goals first | exact ⟨HB20.out, k + 1, by omega, by first | done | go_num | rfl⟩ | (simp [intOf]; omega)
          · have hkk : decide ((k : Int) < (FL.length : Int)) = false := decide_eq_false (by omega)
            go_wp2
            (first | go_ret2 | go_ret)
            exact ⟨rfl, B3.out.trans (Below.mono (BB.out.trans (HB.out.mono BB.out.size)) B3.out.size)⟩
      · have u1 : decide (0 < qb - qa - 1) = false := decide_eq_false (by omega)
        have u2 : decide (0 < cv) = false := decide_eq_false (by omega)
        have u3 : (cv ≤ 0) = True := eq_true (by omega)
        by_cases he : ev = 0
        rotate_left
        · have he1 : (ev != 0) = true := by simpa using he
          go_wp2
          go_ret
          exact ⟨rfl, B3.out.trans (Below.mono (show Below w3.heap.size w3 _ by first | exact B9 | (go_grown; done) | exact bdrewN B9 _ | exact bdrewN (by go_grown) _ | (go_grown <;> exact bdrewN B9 _)) B3.out.size)⟩
        obtain ⟨e1, e2, e3⟩ := EV.out he
        subst he
        go_wp2_with fail
        refine (F1.out _ (P.out.below (B := w9.heap.size) (by first | exact Below.refl _ _ | (go_grown; done) | exact bdrewN (by go_grown) _) (Nat.le_refl _))).mono ?_
        rintro e w10 ⟨⟨A5, c5, rfl, ri5⟩, hb10⟩
        have P := Lib.hid (((P.out).below (B := w9.heap.size) (by first | exact Below.refl _ _ | (go_grown; done) | exact bdrewN (by go_grown) _) (Nat.le_refl _)).below hb10 (Nat.le_refl _))
        have L3 := Lib.hid (((L3.out).below (B := w9.heap.size) (by first | exact Below.refl _ _ | (go_grown; done) | exact bdrewN (by go_grown) _) (Nat.le_refl _)).below hb10 (Nat.le_refl _))
        have L5 := Lib.hid (ri5.at)
        obtain ⟨B10, hz10, q10, s10, t10, x10, y10, z10⟩ := bkeep (w := w3) [w3.heap.size, w6.heap.size] (by first | (simp; done) | (simp; omega)) (by first | (go_grown; done) | exact bdrewN (by go_grown) _) hb10; (try simp at hz10); clear hb10
        clear ri5
        go_wp2_with fail
        refine (F2.out _ (P.out.below (B := w10.heap.size) (by first | exact Below.refl _ _ | (go_grown; done) | exact bdrewN (by go_grown) _) (Nat.le_refl _))).mono ?_
        rintro e w11 ⟨⟨A6, c6, rfl, ri6⟩, hb11⟩
        have P := Lib.hid (((P.out).below (B := w10.heap.size) (by first | exact Below.refl _ _ | (go_grown; done) | exact bdrewN (by go_grown) _) (Nat.le_refl _)).below hb11 (Nat.le_refl _))
        have L3 := Lib.hid (((L3.out).below (B := w10.heap.size) (by first | exact Below.refl _ _ | (go_grown; done) | exact bdrewN (by go_grown) _) (Nat.le_refl _)).below hb11 (Nat.le_refl _))
        have L5 := Lib.hid (((L5.out).below (B := w10.heap.size) (by first | exact Below.refl _ _ | (go_grown; done) | exact bdrewN (by go_grown) _) (Nat.le_refl _)).below hb11 (Nat.le_refl _))
        have L6 := Lib.hid (ri6.at)
        obtain ⟨B11, hz11, q11, s11, t11, x11, y11, z11⟩ := bkeep (w := w3) [w3.heap.size, w6.heap.size] (by first | (simp; done) | (simp; omega)) (by first | (go_grown; done) | exact bdrewN (by go_grown) _) hb11; (try simp at hz11); clear hb11
        clear ri6
        go_wp2_with fail
        refine (likeInts_same _ _ _ _ _ _ (L5.out.below (B := w11.heap.size) (by first | exact Below.refl _ _ | (go_grown; done) | exact bdrewN (by go_grown) _) (Nat.le_refl _)) (L6.out.below (B := w11.heap.size) (by first | exact Below.refl _ _ | (go_grown; done) | exact bdrewN (by go_grown) _) (Nat.le_refl _))).mono ?_
        rintro e w12 ⟨rfl, hb12⟩
        have P := Lib.hid (((P.out).below (B := w11.heap.size) (by first | exact Below.refl _ _ | (go_grown; done) | exact bdrewN (by go_grown) _) (Nat.le_refl _)).below hb12 (Nat.le_refl _))
        have L3 := Lib.hid (((L3.out).below (B := w11.heap.size) (by first | exact Below.refl _ _ | (go_grown; done) | exact bdrewN (by go_grown) _) (Nat.le_refl _)).below hb12 (Nat.le_refl _))
        have L5 := Lib.hid (((L5.out).below (B := w11.heap.size) (by first | exact Below.refl _ _ | (go_grown; done) | exact bdrewN (by go_grown) _) (Nat.le_refl _)).below hb12 (Nat.le_refl _))
        have L6 := Lib.hid (((L6.out).below (B := w11.heap.size) (by first | exact Below.refl _ _ | (go_grown; done) | exact bdrewN (by go_grown) _) (Nat.le_refl _)).below hb12 (Nat.le_refl _))
        obtain ⟨B12, hz12, q12, s12, t12, x12, y12, z12⟩ := bkeep (w := w3) [w3.heap.size, w6.heap.size] (by first | (simp; done) | (simp; omega)) (by first | (go_grown; done) | exact bdrewN (by go_grown) _) hb12; (try simp at hz12); clear hb12
        have wm : IntKind.i64.wrap (hi - lo) = (FL.length : Int) := by rw [e1]; exact IntWalk.i64_in _ (by omega)
        go_wp2_with fail
        have BB := Lib.hid (show Below w3.heap.size w3 w12 by first | exact B12 | (go_grown; done))
        go_loopw [31] (fun i wr => Below w12.heap.size w12 wr ∧ ∃ k : Nat, k ≤ FL.length ∧ i = .int .i64 k) (fun i _ => FL.length - (intOf i).toNat)
        case atStart => exact ⟨Below.refl _ _, 0, by omega, rfl⟩
        case round =>
          obtain ⟨hbr, k, hk, rfl⟩ := hrel
          have HB := Lib.hid hbr; clear hbr
          by_cases hlt : k < FL.length
          · have wk : IntKind.i64.wrap (lo + (k : Int)) = lo + (k : Int) := IntWalk.i64_in _ (by omega)
            have wk1 : IntKind.i64.wrap ((k : Int) + 1) = ((k + 1 : Nat) : Int) := by rw [IntWalk.i64_in _ (by omega)]; omega
            have hkk : decide ((k : Int) < (FL.length : Int)) = true := decide_eq_true (by omega)
            have hh0 : hasB OL (lo + (k : Int)) = decide (spd FL k ≠ 0) := by rw [OC.out, oc_has]; simp [hlt]
            obtain ⟨b, off, y, rfl, hb, hxk, hc⟩ := (L5.out.below HB.out (Nat.le_refl _)).at_ hlt
            have ey := spd_at hxk
            rw [ey] at hh0
            clear ey hxk
            have hk0 : (0 : Int) ≤ (k : Int) := Int.natCast_nonneg _
            have hk1 : (k : Int) < (FL.length : Int) := by omega
            by_cases hy : y = 0
            · subst hy
              have HI := Lib.hid (show ∀ w, IntsAt w A3 c3 OL → Calls Try.prog 43 #[.slice A3 OL.length c3, .int .i64 (lo + (k : Int))] w fun e w' => e = .returned (.bool false) ∧ Below w.heap.size w w' from fun w h => by have q := hasInt_any A3 c3 OL (lo + (k : Int)) w h; rw [hh0] at q; simpa [] using q)
              clear hh0
              go_wp2_with fail
              go_region_held3 (fun w' => w'.cell? ⟨b, off + k, none⟩ = some (.int .i64 0)) (first | (go_keep; done) | (simp [*, go_sem]; done))
                (first | (go_at_call 43; refine (HI.out _ ((L3.out.below HB.out (Nat.le_refl _)).below (B := wr.heap.size) (by first | exact Below.refl _ _ | exact bdrewN (Below.refl _ _) _ | (go_grown; done)) (Nat.le_refl _))).mono ?_; rintro e w20 ⟨rfl, hb20⟩; have HB20 := Lib.hid ((HB.out.trans (show Below w12.heap.size wr _ from Below.mono (B := wr.heap.size) (by first | exact Below.refl _ _ | exact bdrewN (Below.refl _ _) _ | (go_grown; done)) HB.out.size)).trans (hb20.mono (by have hs_ := HB.out.size; first | omega | (simp; done) | (simp; omega)))); have hc20 : w20.cell? ⟨b, off + k, none⟩ = some (.int .i64 0) := (hb20.cell (p := ⟨b, off + k, none⟩) (by first | exact hb | (simp; done) | (simp; omega))).trans (by first | exact hc | simpa using hc); have hz20 := hb20.size; clear hb20))
              all_goals go_wp2
              all_goals go_roundw
              all_goals first | exact ⟨HB20.out, k + 1, by omega, by first | done | go_num | rfl⟩ | (simp [intOf]; omega)
            · have hy2 : (y != 0) = true := by simpa using hy
              have HI := Lib.hid (show ∀ w, IntsAt w A3 c3 OL → Calls Try.prog 43 #[.slice A3 OL.length c3, .int .i64 (lo + (k : Int))] w fun e w' => e = .returned (.bool true) ∧ Below w.heap.size w w' from fun w h => by have q := hasInt_any A3 c3 OL (lo + (k : Int)) w h; rw [hh0] at q; simpa [hy] using q)
              clear hy
              clear hh0
              go_wp2_with fail
              go_region_held3 (fun w' => w'.cell? ⟨b, off + k, none⟩ = some (.int .i64 y)) (first | (go_keep; done) | (simp [*, go_sem]; done))
                (first | (go_at_call 43; refine (HI.out _ ((L3.out.below HB.out (Nat.le_refl _)).below (B := wr.heap.size) (by first | exact Below.refl _ _ | exact bdrewN (Below.refl _ _) _ | (go_grown; done)) (Nat.le_refl _))).mono ?_; rintro e w20 ⟨rfl, hb20⟩; have HB20 := Lib.hid ((HB.out.trans (show Below w12.heap.size wr _ from Below.mono (B := wr.heap.size) (by first | exact Below.refl _ _ | exact bdrewN (Below.refl _ _) _ | (go_grown; done)) HB.out.size)).trans (hb20.mono (by have hs_ := HB.out.size; first | omega | (simp; done) | (simp; omega)))); have hc20 : w20.cell? ⟨b, off + k, none⟩ = some (.int .i64 y) := (hb20.cell (p := ⟨b, off + k, none⟩) (by first | exact hb | (simp; done) | (simp; omega))).trans (by first | exact hc | simpa using hc); have hz20 := hb20.size; clear hb20))
              all_goals go_wp2
              all_goals go_roundw
              all_goals first | exact ⟨HB20.out, k + 1, by omega, by first | done | go_num | rfl⟩ | (simp [intOf]; omega)
          · have hkk : decide ((k : Int) < (FL.length : Int)) = false := decide_eq_false (by omega)
            go_wp2
            (first | go_ret2 | go_ret)
            exact ⟨rfl, B3.out.trans (Below.mono (BB.out.trans (HB.out.mono BB.out.size)) B3.out.size)⟩
    · have h2 : (on == 0) = false := beq_eq_false_iff_ne.2 h1
      by_cases he : ev = 0
      rotate_left
      · have he1 : (ev != 0) = true := by simpa using he
        go_wp2
        go_ret
        exact ⟨rfl, B3.out.trans (Below.mono (show Below w3.heap.size w3 _ by first | exact B9 | (go_grown; done) | exact bdrewN B9 _ | exact bdrewN (by go_grown) _ | (go_grown <;> exact bdrewN B9 _)) B3.out.size)⟩
      obtain ⟨e1, e2, e3⟩ := EV.out he
      subst he
      go_wp2_with fail
      refine (F1.out _ (P.out.below (B := w9.heap.size) (by first | exact Below.refl _ _ | (go_grown; done) | exact bdrewN (by go_grown) _) (Nat.le_refl _))).mono ?_
      rintro e w10 ⟨⟨A5, c5, rfl, ri5⟩, hb10⟩
      have P := Lib.hid (((P.out).below (B := w9.heap.size) (by first | exact Below.refl _ _ | (go_grown; done) | exact bdrewN (by go_grown) _) (Nat.le_refl _)).below hb10 (Nat.le_refl _))
      have L3 := Lib.hid (((L3.out).below (B := w9.heap.size) (by first | exact Below.refl _ _ | (go_grown; done) | exact bdrewN (by go_grown) _) (Nat.le_refl _)).below hb10 (Nat.le_refl _))
      have L5 := Lib.hid (ri5.at)
      obtain ⟨B10, hz10, q10, s10, t10, x10, y10, z10⟩ := bkeep (w := w3) [w3.heap.size, w6.heap.size] (by first | (simp; done) | (simp; omega)) (by first | (go_grown; done) | exact bdrewN (by go_grown) _) hb10; (try simp at hz10); clear hb10
      clear ri5
      go_wp2_with fail
      refine (F2.out _ (P.out.below (B := w10.heap.size) (by first | exact Below.refl _ _ | (go_grown; done) | exact bdrewN (by go_grown) _) (Nat.le_refl _))).mono ?_
      rintro e w11 ⟨⟨A6, c6, rfl, ri6⟩, hb11⟩
      have P := Lib.hid (((P.out).below (B := w10.heap.size) (by first | exact Below.refl _ _ | (go_grown; done) | exact bdrewN (by go_grown) _) (Nat.le_refl _)).below hb11 (Nat.le_refl _))
      have L3 := Lib.hid (((L3.out).below (B := w10.heap.size) (by first | exact Below.refl _ _ | (go_grown; done) | exact bdrewN (by go_grown) _) (Nat.le_refl _)).below hb11 (Nat.le_refl _))
      have L5 := Lib.hid (((L5.out).below (B := w10.heap.size) (by first | exact Below.refl _ _ | (go_grown; done) | exact bdrewN (by go_grown) _) (Nat.le_refl _)).below hb11 (Nat.le_refl _))
      have L6 := Lib.hid (ri6.at)
      obtain ⟨B11, hz11, q11, s11, t11, x11, y11, z11⟩ := bkeep (w := w3) [w3.heap.size, w6.heap.size] (by first | (simp; done) | (simp; omega)) (by first | (go_grown; done) | exact bdrewN (by go_grown) _) hb11; (try simp at hz11); clear hb11
      clear ri6
      go_wp2_with fail
      refine (likeInts_same _ _ _ _ _ _ (L5.out.below (B := w11.heap.size) (by first | exact Below.refl _ _ | (go_grown; done) | exact bdrewN (by go_grown) _) (Nat.le_refl _)) (L6.out.below (B := w11.heap.size) (by first | exact Below.refl _ _ | (go_grown; done) | exact bdrewN (by go_grown) _) (Nat.le_refl _))).mono ?_
      rintro e w12 ⟨rfl, hb12⟩
      have P := Lib.hid (((P.out).below (B := w11.heap.size) (by first | exact Below.refl _ _ | (go_grown; done) | exact bdrewN (by go_grown) _) (Nat.le_refl _)).below hb12 (Nat.le_refl _))
      have L3 := Lib.hid (((L3.out).below (B := w11.heap.size) (by first | exact Below.refl _ _ | (go_grown; done) | exact bdrewN (by go_grown) _) (Nat.le_refl _)).below hb12 (Nat.le_refl _))
      have L5 := Lib.hid (((L5.out).below (B := w11.heap.size) (by first | exact Below.refl _ _ | (go_grown; done) | exact bdrewN (by go_grown) _) (Nat.le_refl _)).below hb12 (Nat.le_refl _))
      have L6 := Lib.hid (((L6.out).below (B := w11.heap.size) (by first | exact Below.refl _ _ | (go_grown; done) | exact bdrewN (by go_grown) _) (Nat.le_refl _)).below hb12 (Nat.le_refl _))
      obtain ⟨B12, hz12, q12, s12, t12, x12, y12, z12⟩ := bkeep (w := w3) [w3.heap.size, w6.heap.size] (by first | (simp; done) | (simp; omega)) (by first | (go_grown; done) | exact bdrewN (by go_grown) _) hb12; (try simp at hz12); clear hb12
      have wm : IntKind.i64.wrap (hi - lo) = (FL.length : Int) := by rw [e1]; exact IntWalk.i64_in _ (by omega)
      go_wp2_with fail
      have BB := Lib.hid (show Below w3.heap.size w3 w12 by first | exact B12 | (go_grown; done))
      go_loopw [31] (fun i wr => Below w12.heap.size w12 wr ∧ ∃ k : Nat, k ≤ FL.length ∧ i = .int .i64 k) (fun i _ => FL.length - (intOf i).toNat)
      case atStart => exact ⟨Below.refl _ _, 0, by omega, rfl⟩
      case round =>
        obtain ⟨hbr, k, hk, rfl⟩ := hrel
        have HB := Lib.hid hbr; clear hbr
        by_cases hlt : k < FL.length
        · have wk : IntKind.i64.wrap (lo + (k : Int)) = lo + (k : Int) := IntWalk.i64_in _ (by omega)
          have wk1 : IntKind.i64.wrap ((k : Int) + 1) = ((k + 1 : Nat) : Int) := by rw [IntWalk.i64_in _ (by omega)]; omega
          have hkk : decide ((k : Int) < (FL.length : Int)) = true := decide_eq_true (by omega)
          have hh0 : hasB OL (lo + (k : Int)) = decide (spd FL k ≠ 0) := by rw [OC.out, oc_has]; simp [hlt]
          obtain ⟨b, off, y, rfl, hb, hxk, hc⟩ := (L5.out.below HB.out (Nat.le_refl _)).at_ hlt
          have ey := spd_at hxk
          rw [ey] at hh0
          clear ey hxk
          have hk0 : (0 : Int) ≤ (k : Int) := Int.natCast_nonneg _
          have hk1 : (k : Int) < (FL.length : Int) := by omega
          by_cases hy : y = 0
          · subst hy
            have HI := Lib.hid (show ∀ w, IntsAt w A3 c3 OL → Calls Try.prog 43 #[.slice A3 OL.length c3, .int .i64 (lo + (k : Int))] w fun e w' => e = .returned (.bool false) ∧ Below w.heap.size w w' from fun w h => by have q := hasInt_any A3 c3 OL (lo + (k : Int)) w h; rw [hh0] at q; simpa [] using q)
            clear hh0
            go_wp2_with fail
            go_region_held3 (fun w' => w'.cell? ⟨b, off + k, none⟩ = some (.int .i64 0)) (first | (go_keep; done) | (simp [*, go_sem]; done))
              (first | (go_at_call 43; refine (HI.out _ ((L3.out.below HB.out (Nat.le_refl _)).below (B := wr.heap.size) (by first | exact Below.refl _ _ | exact bdrewN (Below.refl _ _) _ | (go_grown; done)) (Nat.le_refl _))).mono ?_; rintro e w20 ⟨rfl, hb20⟩; have HB20 := Lib.hid ((HB.out.trans (show Below w12.heap.size wr _ from Below.mono (B := wr.heap.size) (by first | exact Below.refl _ _ | exact bdrewN (Below.refl _ _) _ | (go_grown; done)) HB.out.size)).trans (hb20.mono (by have hs_ := HB.out.size; first | omega | (simp; done) | (simp; omega)))); have hc20 : w20.cell? ⟨b, off + k, none⟩ = some (.int .i64 0) := (hb20.cell (p := ⟨b, off + k, none⟩) (by first | exact hb | (simp; done) | (simp; omega))).trans (by first | exact hc | simpa using hc); have hz20 := hb20.size; clear hb20))
            all_goals go_wp2
            all_goals go_roundw
            all_goals first | exact ⟨HB20.out, k + 1, by omega, by first | done | go_num | rfl⟩ | (simp [intOf]; omega)
          · have hy2 : (y != 0) = true := by simpa using hy
            have HI := Lib.hid (show ∀ w, IntsAt w A3 c3 OL → Calls Try.prog 43 #[.slice A3 OL.length c3, .int .i64 (lo + (k : Int))] w fun e w' => e = .returned (.bool true) ∧ Below w.heap.size w w' from fun w h => by have q := hasInt_any A3 c3 OL (lo + (k : Int)) w h; rw [hh0] at q; simpa [hy] using q)
            clear hy
            clear hh0
            go_wp2_with fail
            go_region_held3 (fun w' => w'.cell? ⟨b, off + k, none⟩ = some (.int .i64 y)) (first | (go_keep; done) | (simp [*, go_sem]; done))
              (first | (go_at_call 43; refine (HI.out _ ((L3.out.below HB.out (Nat.le_refl _)).below (B := wr.heap.size) (by first | exact Below.refl _ _ | exact bdrewN (Below.refl _ _) _ | (go_grown; done)) (Nat.le_refl _))).mono ?_; rintro e w20 ⟨rfl, hb20⟩; have HB20 := Lib.hid ((HB.out.trans (show Below w12.heap.size wr _ from Below.mono (B := wr.heap.size) (by first | exact Below.refl _ _ | exact bdrewN (Below.refl _ _) _ | (go_grown; done)) HB.out.size)).trans (hb20.mono (by have hs_ := HB.out.size; first | omega | (simp; done) | (simp; omega)))); have hc20 : w20.cell? ⟨b, off + k, none⟩ = some (.int .i64 y) := (hb20.cell (p := ⟨b, off + k, none⟩) (by first | exact hb | (simp; done) | (simp; omega))).trans (by first | exact hc | simpa using hc); have hz20 := hb20.size; clear hb20))
            all_goals go_wp2
            all_goals go_roundw
            all_goals first | exact ⟨HB20.out, k + 1, by omega, by first | done | go_num | rfl⟩ | (simp [intOf]; omega)
        · have hkk : decide ((k : Int) < (FL.length : Int)) = false := decide_eq_false (by omega)
          go_wp2
          (first | go_ret2 | go_ret)
          exact ⟨rfl, B3.out.trans (Below.mono (BB.out.trans (HB.out.mono BB.out.size)) B3.out.size)⟩
end
end Go.Proofs.Ytopggkomkfjbfaa
