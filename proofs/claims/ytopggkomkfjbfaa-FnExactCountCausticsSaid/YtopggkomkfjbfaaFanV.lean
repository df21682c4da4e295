/- The verdicts on the cells of a fan, by the program and by the reference. -/
import Derived.Test.YtopggkomkfjbfaaFanC
import Derived.Test.YtopggkomkfjbfaaCellV
import Derived.Deep.RegionHeld3
import Derived.IntWalk
namespace Go.Proofs.Ytopggkomkfjbfaa
set_option linter.unusedSimpArgs false
set_option linter.unusedVariables false
open Go.RowKit

def fvI (ds ss : List Int) (src n lo : Int) (dn : Bool) (st : Nat) (knot dist : Int) (i : Nat) : Int := cvI ds ss src (mdC (lo + (i : Int)) n) (mdS (lo + (i : Int)) n dn) (mdH (lo + (i : Int)) n) (mdC (lo + ((i : Int) + 1)) n) (mdS (lo + ((i : Int) + 1)) n dn) (mdH (lo + ((i : Int) + 1)) n) st knot dist
def fvTo (ds ss : List Int) (src n lo : Int) (dn : Bool) (st : Nat) (knot dist : Int) (k : Nat) : List Int := (List.range k).map fun i => fvI ds ss src n lo dn st knot dist i
theorem fvTo_len (ds ss : List Int) (src n lo : Int) (dn : Bool) (st : Nat) (knot dist : Int) (k : Nat) : (fvTo ds ss src n lo dn st knot dist k).length = k := by rw [fvTo, List.length_map, List.length_range]
theorem fvTo_next (ds ss : List Int) (src n lo : Int) (dn : Bool) (st : Nat) (knot dist : Int) (k : Nat) : fvTo ds ss src n lo dn st knot dist (k + 1) = fvTo ds ss src n lo dn st knot dist k ++ [fvI ds ss src n lo dn st knot dist k] := by rw [fvTo, List.range_succ, List.map_append]; rfl
theorem fc_cells {w : World} {A : Option Addr} {c : Nat} {ds ss : List Int} {src n lo : Int} {dn : Bool} {st K k : Nat} (h : KAt w A c 11 (fcL ds ss src n lo dn st K)) (hk : k < K) :
    ∃ b off, A = some ⟨b, off, none⟩ ∧ b < w.heap.size ∧ ∀ j u, (fcE ds ss src n lo dn st k)[j]? = some u → w.cell? ⟨b, off + k * 11 + j, none⟩ = some u := by
  obtain ⟨b, off, e, rfl, hb, he, hc⟩ := h.at_ (i := k) (by rw [fcL_len]; exact hk)
  rw [fcL, List.getElem?_map, List.getElem?_range hk] at he
  simp only [Option.map_some, Option.some.injEq] at he
  subst he
  exact ⟨b, off, rfl, hb, hc⟩
@[irreducible] def fvE (ds ss : List Int) (src n lo hi st knot dist : Int) : Int := if faE ds ss src n lo hi st = 0 then (if rcB ds.length knot dist then 0 else 2) else faE ds ss src n lo hi st
@[irreducible] def fvL (ds ss : List Int) (src n lo hi : Int) (dn : Bool) (st knot dist : Int) : List Int := if fvE ds ss src n lo hi st knot dist = 0 then fvTo ds ss src n lo dn st.toNat knot dist (hi - lo).toNat else []
theorem fv_bad {ds ss : List Int} {src n lo hi st : Int} (dn : Bool) (knot dist : Int) (h : faE ds ss src n lo hi st ≠ 0) : fvE ds ss src n lo hi st knot dist = faE ds ss src n lo hi st ∧ fvL ds ss src n lo hi dn st knot dist = [] := by
  have e : fvE ds ss src n lo hi st knot dist = faE ds ss src n lo hi st := by unfold fvE; rw [if_neg h]
  exact ⟨e, by unfold fvL; rw [e, if_neg h]⟩
theorem fv_far {ds ss : List Int} {src n lo hi st knot dist : Int} (dn : Bool) (h : faE ds ss src n lo hi st = 0) (hr : rcB ds.length knot dist = false) : fvE ds ss src n lo hi st knot dist = 2 ∧ fvL ds ss src n lo hi dn st knot dist = [] := by
  have e : fvE ds ss src n lo hi st knot dist = 2 := by unfold fvE; rw [if_pos h, hr]; rfl
  exact ⟨e, by unfold fvL; rw [e]; rfl⟩
theorem fv_ok {ds ss : List Int} {src n lo hi knot dist : Int} {m : Nat} (dn : Bool) (h : faE ds ss src n lo hi m = 0) (hr : rcB ds.length knot dist = true) : fvE ds ss src n lo hi m knot dist = 0 ∧ fvL ds ss src n lo hi dn m knot dist = fvTo ds ss src n lo dn m knot dist (hi - lo).toNat := by
  have e : fvE ds ss src n lo hi m knot dist = 0 := by unfold fvE; rw [if_pos h, hr]; rfl
  exact ⟨e, by unfold fvL; rw [if_pos e, Int.toNat_natCast]⟩
theorem fvL_len (ds ss : List Int) (src n lo hi : Int) (dn : Bool) (st knot dist : Int) : (fvL ds ss src n lo hi dn st knot dist).length ≤ 31 := by
  unfold fvL
  split
  · rename_i h
    unfold fvE at h
    split at h
    · rename_i h2
      obtain ⟨-, hf, -⟩ := fa_zero h2
      have k := fan_ok hf
      rw [fvTo_len]; have := k.n1; have := k.l0; have := k.h1; omega
    · rename_i h2; exact absurd h h2
  · simp
set_option maxRecDepth 4000 in
set_option maxHeartbeats 4000000 in
theorem specFan_ok (A1 A2 : Option Addr) (c1 c2 : Nat) (ds ss : List Int) (src n lo hi : Int) (dn : Bool) (st K : Nat) (knot dist : Int) (w : World) (h : ProfAt w A1 c1 A2 c2 ds ss) (hp : profB ds ss = true) (hf : fanB n lo hi = true) (u0 : 0 ≤ src) (u1 : src ≤ (ds.length : Int) - 1) (hst : st ≤ 100) (hK1 : hi ≤ lo + K) (hK2 : lo + K ≤ hi) (hr : rcB ds.length knot dist = true) :
    Calls Try.prog 29 #[profV A1 ds.length c1 A2 ss.length c2, .int .i64 src, .int .i64 n, .int .i64 lo, .int .i64 hi, .bool dn, .int .i64 st, .int .i64 knot, .int .i64 dist] w fun e w' => (∃ A' c', e = .returned (.tuple #[.slice A' K c', .int .i64 0]) ∧ ResI w' w.heap.size w'.heap.size A' c' (fvTo ds ss src n lo dn st knot dist K)) ∧ Below w.heap.size w w' := by
  obtain ⟨f1, f2, f3, f4, f5⟩ := fan_ok hf
  have hnl := Nat.le_trans h.1.1 h.1.2.1
  have RV := Lib.hid (show ∀ w, Calls Try.prog 59 #[profV A1 ds.length c1 A2 ss.length c2, .int .i64 knot, .int .i64 dist] w fun e w' => e = .returned (.bool true) ∧ Below w.heap.size w w' from fun w => by have q := l08Target_any A1 A2 ds.length ss.length c1 c2 knot dist w hnl; rw [hr] at q; exact q)
  have LC := Lib.hid (fun w h => l08Cells_ok A1 A2 c1 c2 ds ss src n lo hi dn st K w h hp hf u0 u1 hst hK1 hK2)
  have H := Lib.hid h; clear h hp hf hr
  go_enter Try.func29, Try.ntmps29
  go_wp2_with fail
  refine (LC.out _ (H.out.below (B := w.heap.size) (by first | exact Below.refl _ _ | (go_grown; done) | exact bdrewN (by go_grown) _) (Nat.le_refl _))).mono ?_
  rintro e w1 ⟨⟨Ac, cc, rfl, RC⟩, hb1⟩
  have VC := Lib.hid (RC.mono (show w.heap.size ≤ _ by first | (simp; done) | (simp; omega)) (Nat.le_refl _)); clear RC
  obtain ⟨B1, hz1, q1, s1, t1, x1, y1, z1⟩ := bkeep (w := w) [w.heap.size] (by first | (simp; done) | (simp; omega)) (by first | (go_grown; done) | exact bdrewN (by go_grown) _) hb1; (try simp at hz1); clear hb1
  go_upto_region 7 with (go_at_call 59; refine (RV.out _).mono ?_; rintro e w2 ⟨rfl, hb2⟩; obtain ⟨B2, hz2, q2, s2, t2, x2, y2, z2⟩ := bkeep (w := w1) [w.heap.size] (by first | (simp; done) | (simp; omega)) (by first | (go_grown; done) | exact bdrewN (by go_grown) _) hb2; (try simp at hz2); clear hb2)
  refine genS (S := fun w' => Below (w.heap.size) w w' ∧ ResK w' w.heap.size w1.heap.size Ac cc 11 (fcL ds ss src n lo dn st K) ∧ OwnI w' w2.heap.size (.slice (some ⟨w2.heap.size, 0, none⟩) 0 0) [] ∧ w.heap.size ≤ w2.heap.size ∧ w1.heap.size ≤ w2.heap.size ∧ w2.heap.size ≤ w'.heap.size) ⟨(by have hb_ := B1.trans (B2.mono (show w.heap.size ≤ w1.heap.size from B1.size)); first | with_reducible exact hb_ | (go_grown; done)), (VC.out.below (B := w1.heap.size) (by first | with_reducible exact B2 | (go_grown; done)) (Nat.le_refl _)), OwnI.zero (Nat.le_refl _), ⟨by have := B1.size; have := B2.size; omega, B2.size, by first | omega | (simp; done) | (simp; omega)⟩⟩ ?_
  clear q1 s1 t1 x1 y1 z1 VC
  rintro w4 ⟨B4, GC, GO, sz2⟩
  have z4 : w.heap.size ≤ w4.heap.size := B4.size
  have VC := Lib.hid GC; have VO := Lib.hid GO; have HB := Lib.hid B4; clear GC GO B4
  obtain ⟨sz2a, sz2b, sz2c⟩ := sz2
  go_wp2
  go_loopw [22, 23] (fun v i wr => Below w2.heap.size w4 wr ∧ ∃ k : Nat, k ≤ K ∧ i = .int .i64 k ∧ OwnI wr w2.heap.size v (fvTo ds ss src n lo dn st knot dist k)) (fun _ i _ => K - (intOf i).toNat)
  case atStart => exact ⟨Below.refl _ _, 0, by omega, rfl, VO.out⟩
  case round =>
    obtain ⟨Br, k, hk, rfl, A', c', rfl, hc', hown⟩ := hrel
    simp only [fvTo_len] at hown ⊢
    have HO := Lib.hid hown; clear hown
    have sr := Br.size
    have HBr := Lib.hid Br
    have KC := Lib.hid (VC.out.below Br (by omega)).at
    by_cases hlt : k < K
    · obtain ⟨b, off, rfl, hb, hc⟩ := fc_cells KC.out hlt
      have hV : fvI ds ss src n lo dn st knot dist k = cvB (rwAt ds ss src (mdC (lo + (k : Int)) n) (mdS (lo + (k : Int)) n dn) (mdH (lo + (k : Int)) n) st) (rwAt ds ss src (mdC (lo + ((k : Int) + 1)) n) (mdS (lo + ((k : Int) + 1)) n dn) (mdH (lo + ((k : Int) + 1)) n) st) (sameN ds ss src (mdC (lo + (k : Int)) n) (mdS (lo + (k : Int)) n dn) (mdH (lo + (k : Int)) n) (mdC (lo + ((k : Int) + 1)) n) (mdS (lo + ((k : Int) + 1)) n dn) (mdH (lo + ((k : Int) + 1)) n) st) (clLo ds ss src (mdC (lo + (k : Int)) n) (mdS (lo + (k : Int)) n dn) (mdH (lo + (k : Int)) n) (mdC (lo + ((k : Int) + 1)) n) (mdS (lo + ((k : Int) + 1)) n dn) (mdH (lo + ((k : Int) + 1)) n) st) (clHi ds ss src (mdC (lo + (k : Int)) n) (mdS (lo + (k : Int)) n dn) (mdH (lo + (k : Int)) n) (mdC (lo + ((k : Int) + 1)) n) (mdS (lo + ((k : Int) + 1)) n dn) (mdH (lo + ((k : Int) + 1)) n) st) knot dist := rfl
      have hE : fcE ds ss src n lo dn st k = cellE (rwAt ds ss src (mdC (lo + (k : Int)) n) (mdS (lo + (k : Int)) n dn) (mdH (lo + (k : Int)) n) st) (rwAt ds ss src (mdC (lo + ((k : Int) + 1)) n) (mdS (lo + ((k : Int) + 1)) n dn) (mdH (lo + ((k : Int) + 1)) n) st) (sameN ds ss src (mdC (lo + (k : Int)) n) (mdS (lo + (k : Int)) n dn) (mdH (lo + (k : Int)) n) (mdC (lo + ((k : Int) + 1)) n) (mdS (lo + ((k : Int) + 1)) n dn) (mdH (lo + ((k : Int) + 1)) n) st) (clLo ds ss src (mdC (lo + (k : Int)) n) (mdS (lo + (k : Int)) n dn) (mdH (lo + (k : Int)) n) (mdC (lo + ((k : Int) + 1)) n) (mdS (lo + ((k : Int) + 1)) n dn) (mdH (lo + ((k : Int) + 1)) n) st) (clHi ds ss src (mdC (lo + (k : Int)) n) (mdS (lo + (k : Int)) n dn) (mdH (lo + (k : Int)) n) (mdC (lo + ((k : Int) + 1)) n) (mdS (lo + ((k : Int) + 1)) n dn) (mdH (lo + ((k : Int) + 1)) n) st) := rfl
      obtain ⟨xk, xd, xl, xh, hx⟩ := rs_cell (rwAt ds ss src (mdC (lo + (k : Int)) n) (mdS (lo + (k : Int)) n dn) (mdH (lo + (k : Int)) n) st)
      obtain ⟨yk, yd, yl, yh, hy_⟩ := rs_cell (rwAt ds ss src (mdC (lo + ((k : Int) + 1)) n) (mdS (lo + ((k : Int) + 1)) n dn) (mdH (lo + ((k : Int) + 1)) n) st)
      obtain ⟨sm, hsm⟩ : ∃ x, sameN ds ss src (mdC (lo + (k : Int)) n) (mdS (lo + (k : Int)) n dn) (mdH (lo + (k : Int)) n) (mdC (lo + ((k : Int) + 1)) n) (mdS (lo + ((k : Int) + 1)) n dn) (mdH (lo + ((k : Int) + 1)) n) st = x := ⟨_, rfl⟩
      obtain ⟨sl, hsl⟩ : ∃ x, clLo ds ss src (mdC (lo + (k : Int)) n) (mdS (lo + (k : Int)) n dn) (mdH (lo + (k : Int)) n) (mdC (lo + ((k : Int) + 1)) n) (mdS (lo + ((k : Int) + 1)) n dn) (mdH (lo + ((k : Int) + 1)) n) st = x := ⟨_, rfl⟩
      obtain ⟨sh, hsh⟩ : ∃ x, clHi ds ss src (mdC (lo + (k : Int)) n) (mdS (lo + (k : Int)) n dn) (mdH (lo + (k : Int)) n) (mdC (lo + ((k : Int) + 1)) n) (mdS (lo + ((k : Int) + 1)) n dn) (mdH (lo + ((k : Int) + 1)) n) st = x := ⟨_, rfl⟩
      rw [hx, hy_, hsm, hsl, hsh] at hE hV
      rw [hE] at hc
      have q0 := hc 0 _ rfl
      have q1 := hc 1 _ rfl
      have q2 := hc 2 _ rfl
      have q3 := hc 3 _ rfl
      have q4 := hc 4 _ rfl
      have q5 := hc 5 _ rfl
      have q6 := hc 6 _ rfl
      have q7 := hc 7 _ rfl
      have q8 := hc 8 _ rfl
      have q9 := hc 9 _ rfl
      have q10 := hc 10 _ rfl
      rw [Nat.add_zero] at q0
      dsimp only at q0 q1 q2 q3 q4 q5 q6 q7
      obtain ⟨v, hv⟩ : ∃ x, cvB ⟨xk, xd, xl, xh⟩ ⟨yk, yd, yl, yh⟩ sm sl sh knot dist = x := ⟨_, rfl⟩
      rw [hv] at hV
      have LV := Lib.hid (show ∀ w, Calls Try.prog 60 #[cellV ⟨xk, xd, xl, xh⟩ ⟨yk, yd, yl, yh⟩ sm sl sh, .int .i64 knot, .int .i64 dist] w fun e w' => e = .returned (.int .i64 v) ∧ Below w.heap.size w w' from fun w => by have q := l08Verdict_any ⟨xk, xd, xl, xh⟩ ⟨yk, yd, yl, yh⟩ sm sl sh knot dist w; rw [hv] at q; exact q)
      have HV := Lib.hid hV; clear hV hE hx hy_ hsm hsl hsh hv hc Br
      have gk2 : (k : Int) < (K : Int) := by omega
      have gk0 : (0 : Int) ≤ k := by omega
      go_wp2_with (first
        | (go_at_call 60; refine (LV.out _).mono ?_; rintro e w8 ⟨rfl, hb8⟩; have K8 := Keep.of_below (lo := w2.heap.size) hb8; have B8 := Lib.hid (HBr.out.trans (hb8.mono (show w2.heap.size ≤ wr.heap.size by omega))); have sz8 := hb8.size; clear hb8)
        | (at_builtin; refine appG rfl _ _ 22 rfl w2.heap.size 2 (.int .i64 0) 1 8 Try.underlying22 infoInt2 rfl (by omega) [.int .i64 v] rfl (by intro u hu; simp at hu; subst hu; rfl) _ _ _ rfl _ rfl (own_keep HO.out (by repeat' (first | with_reducible exact K8 | with_reducible exact Keep.refl _ _ _ | with_reducible refine Keep.setB ?_ ?_ _ | with_reducible refine Keep.alloc ?_ ?_ _ | with_reducible refine Keep.drew ?_ | omega | (simp; done) | (simp; omega)))) ?_ ?_ ?_ ?_ ?_; (focus (intro j u hj; match j, hj with | 0, hj => (simp at hj; subst hj; simp [*, go_sem]) | j + 1, hj => simp at hj)); (focus (unfold maxLen; omega)); (focus omega); (focus (first | omega | (simp; omega))); intro v9 w9 hown9 hg9 _; have C9 := Below.grow (B := w2.heap.size) (w0 := w4) (by have hb_ := B8.out; first | with_reducible exact hb_ | (go_grown; done)) hg9 (fun b hb => by have := HO.out.lt b hb; omega) (by first | omega | (simp; omega)); clear hg9; obtain ⟨A14, c14, rfl, hc14⟩ := owns_form hown9; have O9 := Lib.hid hown9; clear hown9))
      go_roundw
      case rel => exact ⟨C9, k + 1, by omega, by first | done | go_num | rfl, OwnI.next (L := fvTo ds ss src n lo dn st knot dist k) ((fvTo_next _ _ _ _ _ _ _ _ _ _).trans (by rw [HV.out])) (by rw [fvTo_len]; exact O9.out)⟩
      case measure => simp [intOf]; omega
    · obtain rfl : k = K := by omega
      go_wp2
      go_ret2
      refine ⟨⟨A', c', rfl, ?_⟩, HB.out.trans (HBr.out.mono (by omega))⟩
      exact (OwnI.res (n := k) (L := fvTo ds ss src n lo dn st knot dist k) ⟨A', c', by rw [fvTo_len], hc', by rw [fvTo_len]; exact HO.out⟩).mono (by omega) (Nat.le_refl _)
set_option maxHeartbeats 4000000 in
theorem specFan_any (A1 A2 : Option Addr) (c1 c2 : Nat) (ds ss : List Int) (src n lo hi : Int) (dn : Bool) (st knot dist : Int) (w : World) (h : ProfAt w A1 c1 A2 c2 ds ss) :
    Calls Try.prog 29 #[profV A1 ds.length c1 A2 ss.length c2, .int .i64 src, .int .i64 n, .int .i64 lo, .int .i64 hi, .bool dn, .int .i64 st, .int .i64 knot, .int .i64 dist] w fun e w' => (∃ A' c', e = .returned (.tuple #[.slice A' (fvL ds ss src n lo hi dn st knot dist).length c', .int .i64 (fvE ds ss src n lo hi st knot dist)]) ∧ ResI w' w.heap.size w'.heap.size A' c' (fvL ds ss src n lo hi dn st knot dist)) ∧ Below w.heap.size w w' := by
  have hnl := Nat.le_trans h.1.1 h.1.2.1
  rcases fa_three ds ss src n lo hi st with hc | hc | hc
  rotate_left
  · have hne : faE ds ss src n lo hi st ≠ 0 := by omega
    have ee := fv_bad dn knot dist hne
    rw [hc] at ee
    have EE := Lib.hid ee.1; have EV := Lib.hid ee.2; clear ee
    have FC := Lib.hid (show ∀ w, ProfAt w A1 c1 A2 c2 ds ss → Calls Try.prog 63 #[profV A1 ds.length c1 A2 ss.length c2, .int .i64 src, .int .i64 n, .int .i64 lo, .int .i64 hi, .bool dn, .int .i64 st] w fun e w' => e = .returned (.tuple #[.slice none 0 0, .int .i64 1]) ∧ Below w.heap.size w w' from fun w h => by have q := l08Cells_bad A1 A2 c1 c2 ds ss src n lo hi dn st w h hne; rw [hc] at q; exact q)
    have H := Lib.hid h; clear h hne hc
    have RV := Lib.hid (show ∀ w, Calls Try.prog 59 #[profV A1 ds.length c1 A2 ss.length c2, .int .i64 knot, .int .i64 dist] w fun e w' => e = .returned (.bool (rcB ds.length knot dist)) ∧ Below w.heap.size w w' from fun w => by have q := l08Target_any A1 A2 ds.length ss.length c1 c2 knot dist w hnl; exact q)
    go_enter Try.func29, Try.ntmps29
    go_wp2_with (first
      | (go_at_call 63; refine (FC.out _ (H.out.below (B := w.heap.size) (by first | exact Below.refl _ _ | (go_grown; done) | exact bdrewN (by go_grown) _) (Nat.le_refl _))).mono ?_; rintro e w1 ⟨rfl, hb1⟩; obtain ⟨B1, hz1, q1, s1, t1, x1, y1, z1⟩ := bkeep (w := w) [w.heap.size] (by first | (simp; done) | (simp; omega)) (by first | (go_grown; done) | exact bdrewN (by go_grown) _) hb1; (try simp at hz1); clear hb1)
      | (go_at_call 59; refine (RV.out _).mono ?_; rintro e w2 ⟨rfl, hb2⟩; obtain ⟨B2, hz2, q2, s2, t2, x2, y2, z2⟩ := bkeep (w := w) [w.heap.size] (by first | (simp; done) | (simp; omega)) (by first | (go_grown; done) | exact bdrewN (by go_grown) _) hb2; (try simp at hz2); clear hb2))
    all_goals go_ret2
    all_goals exact ⟨⟨none, 0, by rw [EE.out, EV.out] <;> rfl, by rw [EV.out]; exact ResI.nil _ _ _ _ _ (by omega)⟩, by first | exact (by first | with_reducible exact B2 | (go_grown; done) | with_reducible exact bdrewN B2 _ | (go_grown <;> first | with_reducible exact bdrewN B2 _ | with_reducible exact B2)) | exact (by first | with_reducible exact B1 | (go_grown; done) | with_reducible exact bdrewN B1 _ | (go_grown <;> first | with_reducible exact bdrewN B1 _ | with_reducible exact B1))⟩
  · have hne : faE ds ss src n lo hi st ≠ 0 := by omega
    have ee := fv_bad dn knot dist hne
    rw [hc] at ee
    have EE := Lib.hid ee.1; have EV := Lib.hid ee.2; clear ee
    have FC := Lib.hid (show ∀ w, ProfAt w A1 c1 A2 c2 ds ss → Calls Try.prog 63 #[profV A1 ds.length c1 A2 ss.length c2, .int .i64 src, .int .i64 n, .int .i64 lo, .int .i64 hi, .bool dn, .int .i64 st] w fun e w' => e = .returned (.tuple #[.slice none 0 0, .int .i64 2]) ∧ Below w.heap.size w w' from fun w h => by have q := l08Cells_bad A1 A2 c1 c2 ds ss src n lo hi dn st w h hne; rw [hc] at q; exact q)
    have H := Lib.hid h; clear h hne hc
    rcases Bool.eq_false_or_eq_true (rcB ds.length knot dist) with hr | hr
    · have RV := Lib.hid (show ∀ w, Calls Try.prog 59 #[profV A1 ds.length c1 A2 ss.length c2, .int .i64 knot, .int .i64 dist] w fun e w' => e = .returned (.bool true) ∧ Below w.heap.size w w' from fun w => by have q := l08Target_any A1 A2 ds.length ss.length c1 c2 knot dist w hnl; rw [hr] at q; exact q)
      go_enter Try.func29, Try.ntmps29
      go_wp2_with (first
        | (go_at_call 63; refine (FC.out _ (H.out.below (B := w.heap.size) (by first | exact Below.refl _ _ | (go_grown; done) | exact bdrewN (by go_grown) _) (Nat.le_refl _))).mono ?_; rintro e w1 ⟨rfl, hb1⟩; obtain ⟨B1, hz1, q1, s1, t1, x1, y1, z1⟩ := bkeep (w := w) [w.heap.size] (by first | (simp; done) | (simp; omega)) (by first | (go_grown; done) | exact bdrewN (by go_grown) _) hb1; (try simp at hz1); clear hb1)
        | (go_at_call 59; refine (RV.out _).mono ?_; rintro e w2 ⟨rfl, hb2⟩; obtain ⟨B2, hz2, q2, s2, t2, x2, y2, z2⟩ := bkeep (w := w) [w.heap.size] (by first | (simp; done) | (simp; omega)) (by first | (go_grown; done) | exact bdrewN (by go_grown) _) hb2; (try simp at hz2); clear hb2))
      all_goals go_ret2
      all_goals exact ⟨⟨none, 0, by rw [EE.out, EV.out] <;> rfl, by rw [EV.out]; exact ResI.nil _ _ _ _ _ (by omega)⟩, by first | exact (by first | with_reducible exact B2 | (go_grown; done) | with_reducible exact bdrewN B2 _ | (go_grown <;> first | with_reducible exact bdrewN B2 _ | with_reducible exact B2)) | exact (by first | with_reducible exact B1 | (go_grown; done) | with_reducible exact bdrewN B1 _ | (go_grown <;> first | with_reducible exact bdrewN B1 _ | with_reducible exact B1))⟩
    · have RV := Lib.hid (show ∀ w, Calls Try.prog 59 #[profV A1 ds.length c1 A2 ss.length c2, .int .i64 knot, .int .i64 dist] w fun e w' => e = .returned (.bool false) ∧ Below w.heap.size w w' from fun w => by have q := l08Target_any A1 A2 ds.length ss.length c1 c2 knot dist w hnl; rw [hr] at q; exact q)
      go_enter Try.func29, Try.ntmps29
      go_wp2_with (first
        | (go_at_call 63; refine (FC.out _ (H.out.below (B := w.heap.size) (by first | exact Below.refl _ _ | (go_grown; done) | exact bdrewN (by go_grown) _) (Nat.le_refl _))).mono ?_; rintro e w1 ⟨rfl, hb1⟩; obtain ⟨B1, hz1, q1, s1, t1, x1, y1, z1⟩ := bkeep (w := w) [w.heap.size] (by first | (simp; done) | (simp; omega)) (by first | (go_grown; done) | exact bdrewN (by go_grown) _) hb1; (try simp at hz1); clear hb1)
        | (go_at_call 59; refine (RV.out _).mono ?_; rintro e w2 ⟨rfl, hb2⟩; obtain ⟨B2, hz2, q2, s2, t2, x2, y2, z2⟩ := bkeep (w := w) [w.heap.size] (by first | (simp; done) | (simp; omega)) (by first | (go_grown; done) | exact bdrewN (by go_grown) _) hb2; (try simp at hz2); clear hb2))
      all_goals go_ret2
      all_goals exact ⟨⟨none, 0, by rw [EE.out, EV.out] <;> rfl, by rw [EV.out]; exact ResI.nil _ _ _ _ _ (by omega)⟩, by first | exact (by first | with_reducible exact B2 | (go_grown; done) | with_reducible exact bdrewN B2 _ | (go_grown <;> first | with_reducible exact bdrewN B2 _ | with_reducible exact B2)) | exact (by first | with_reducible exact B1 | (go_grown; done) | with_reducible exact bdrewN B1 _ | (go_grown <;> first | with_reducible exact bdrewN B1 _ | with_reducible exact B1))⟩
  obtain ⟨hp, hf, u0, u1, m, rfl, hm⟩ := fa_zero hc
  obtain ⟨K, hK⟩ : ∃ K : Nat, (hi - lo).toNat = K := ⟨_, rfl⟩
  have k := fan_ok hf
  have kl := k.l1
  rcases Bool.eq_false_or_eq_true (rcB ds.length knot dist) with hr | hr
  · have ee := fv_ok dn hc hr
    rw [ee.1, ee.2, fvTo_len, hK]
    exact specFan_ok A1 A2 c1 c2 ds ss src n lo hi dn m K knot dist w h hp hf u0 u1 hm (by omega) (by omega) hr
  · have ee := fv_far dn hc hr
    have EE := Lib.hid ee.1; have EV := Lib.hid ee.2; clear ee
    have RV := Lib.hid (show ∀ w, Calls Try.prog 59 #[profV A1 ds.length c1 A2 ss.length c2, .int .i64 knot, .int .i64 dist] w fun e w' => e = .returned (.bool false) ∧ Below w.heap.size w w' from fun w => by have q := l08Target_any A1 A2 ds.length ss.length c1 c2 knot dist w hnl; rw [hr] at q; exact q)
    have FC := Lib.hid (fun w h => l08Cells_ok A1 A2 c1 c2 ds ss src n lo hi dn m K w h hp hf u0 u1 hm (by omega) (by omega))
    have H := Lib.hid h; clear h hc hp hf hK k hr
    go_enter Try.func29, Try.ntmps29
    go_wp2_with (first
      | (go_at_call 63; refine (FC.out _ (H.out.below (B := w.heap.size) (by first | exact Below.refl _ _ | (go_grown; done) | exact bdrewN (by go_grown) _) (Nat.le_refl _))).mono ?_; rintro e w1 ⟨⟨Ac, cc, rfl, -⟩, hb1⟩; obtain ⟨B1, hz1, q1, s1, t1, x1, y1, z1⟩ := bkeep (w := w) [w.heap.size] (by first | (simp; done) | (simp; omega)) (by first | (go_grown; done) | exact bdrewN (by go_grown) _) hb1; (try simp at hz1); clear hb1)
      | (go_at_call 59; refine (RV.out _).mono ?_; rintro e w2 ⟨rfl, hb2⟩; obtain ⟨B2, hz2, q2, s2, t2, x2, y2, z2⟩ := bkeep (w := w) [w.heap.size] (by first | (simp; done) | (simp; omega)) (by first | (go_grown; done) | exact bdrewN (by go_grown) _) hb2; (try simp at hz2); clear hb2))
    all_goals go_ret2
    all_goals exact ⟨⟨none, 0, by rw [EE.out, EV.out] <;> rfl, by rw [EV.out]; exact ResI.nil _ _ _ _ _ (by omega)⟩, by first | exact (by first | with_reducible exact B2 | (go_grown; done) | with_reducible exact bdrewN B2 _ | (go_grown <;> first | with_reducible exact bdrewN B2 _ | with_reducible exact B2)) | exact (by first | with_reducible exact B1 | (go_grown; done) | with_reducible exact bdrewN B1 _ | (go_grown <;> first | with_reducible exact bdrewN B1 _ | with_reducible exact B1))⟩
set_option maxRecDepth 4000 in
set_option maxHeartbeats 4000000 in
theorem implFan_ok (A1 A2 : Option Addr) (c1 c2 : Nat) (ds ss : List Int) (src n lo hi : Int) (dn : Bool) (st K : Nat) (knot dist : Int) (w : World) (h : ProfAt w A1 c1 A2 c2 ds ss) (hp : profB ds ss = true) (hf : fanB n lo hi = true) (u0 : 0 ≤ src) (u1 : src ≤ (ds.length : Int) - 1) (hst : st ≤ 100) (hK1 : hi ≤ lo + K) (hK2 : lo + K ≤ hi) (hr : rcB ds.length knot dist = true) :
    Calls Try.prog 30 #[profV A1 ds.length c1 A2 ss.length c2, .int .i64 src, .int .i64 n, .int .i64 lo, .int .i64 hi, .bool dn, .int .i64 st, .int .i64 knot, .int .i64 dist] w fun e w' => (∃ A' c', e = .returned (.tuple #[.slice A' K c', .int .i64 0]) ∧ ResI w' w.heap.size w'.heap.size A' c' (fvTo ds ss src n lo dn st knot dist K)) ∧ Below w.heap.size w w' := by
  obtain ⟨f1, f2, f3, f4, f5⟩ := fan_ok hf
  obtain ⟨M, hM1, hM2⟩ : ∃ M : Nat, M ≤ K + 1 ∧ K + 1 ≤ M := ⟨K + 1, Nat.le_refl _, Nat.le_refl _⟩
  have hnl := Nat.le_trans h.1.1 h.1.2.1
  have hz : faE ds ss src n lo hi st = 0 := by
    unfold faE
    have a : inB src 0 ((ds.length : Int) - 1) = true := by simp [inB]; omega
    have b : inB (st : Int) 0 100 = true := by simp [inB]; omega
    rw [hp, hf, a, b]; rfl
  have RV := Lib.hid (show ∀ w, Calls Try.prog 61 #[profV A1 ds.length c1 A2 ss.length c2, .int .i64 knot, .int .i64 dist] w fun e w' => e = .returned (.bool true) ∧ Below w.heap.size w w' from fun w => by have q := isReceiver_any A1 A2 ds.length ss.length c1 c2 knot dist w hnl; rw [hr] at q; exact q)
  have FC := Lib.hid (show ∀ w, ProfAt w A1 c1 A2 c2 ds ss → Calls Try.prog 65 #[profV A1 ds.length c1 A2 ss.length c2, .int .i64 src, .int .i64 n, .int .i64 lo, .int .i64 hi, .int .i64 (st : Int)] w fun e w' => e = .returned (.int .i64 0) ∧ Below w.heap.size w w' from fun w h => by have q := fanCode_any A1 A2 c1 c2 ds ss src n lo hi st w h; rw [hz] at q; exact q)
  have r0 := fan_ray (m := lo) dn hp hf u0 u1 (by omega) (by omega)
  have l0 := r0.l0; have l1 := r0.l1; clear r0
  have H := Lib.hid h; have hp_ := Lib.hid hp; have hf_ := Lib.hid hf; clear h hr hz hp hf; have hp := Lib.hid hp_.out; have hf := Lib.hid hf_.out; clear hp_ hf_
  go_enter Try.func30, Try.ntmps30
  go_upto_region 6 with (first
    | (go_at_call 65; refine (FC.out _ (H.out.below (B := w.heap.size) (by first | exact Below.refl _ _ | (go_grown; done) | exact bdrewN (by go_grown) _) (Nat.le_refl _))).mono ?_; rintro e w1 ⟨rfl, hb1⟩; obtain ⟨B1, hz1, q1, s1, t1, x1, y1, z1⟩ := bkeep (w := w) [w.heap.size] (by first | (simp; done) | (simp; omega)) (by first | (go_grown; done) | exact bdrewN (by go_grown) _) hb1; (try simp at hz1); clear hb1)
    | (go_at_call 61; refine (RV.out _).mono ?_; rintro e w2 ⟨rfl, hb2⟩; obtain ⟨B2, hz2, q2, s2, t2, x2, y2, z2⟩ := bkeep (w := w) [w.heap.size] (by first | (simp; done) | (simp; omega)) (by first | (go_grown; done) | exact bdrewN (by go_grown) _) hb2; (try simp at hz2); clear hb2))
  go_upto_region 7 with (go_at_call 66; refine (fanOf_any n lo hi dn M _ hf.out (by omega) (by omega)).mono ?_; rintro e w3 ⟨⟨Af, cf, rfl, RF⟩, hb3⟩; have VF := Lib.hid RF.at; clear RF; obtain ⟨B3, hz3, q3, s3, t3, x3, y3, z3⟩ := bkeep (w := w) [w.heap.size] (by first | (simp; done) | (simp; omega)) (by first | (go_grown; done) | exact bdrewN (by go_grown) _) hb3; (try simp at hz3); clear hb3)
  refine genS (S := fun w' => Below (w.heap.size) w w' ∧ w.heap.size < w'.heap.size ∧ w'.cell? ⟨w.heap.size, 0, none⟩ = some (.slice A1 ds.length c1) ∧ w'.cell? ⟨w.heap.size, 1, none⟩ = some (.slice A2 ss.length c2) ∧ KAt w' Af cf 3 (fanL n lo dn M)) ⟨(by first | exact B3 | (go_grown; done) | exact bdrewN B3 _), by first | omega | (simp; done) | (simp; omega), by simp [*, go_sem], by simp [*, go_sem], VF.out.below (B := w3.heap.size) (by first | exact Below.refl _ _ | (go_grown; done) | exact bdrewN (by go_grown) _) (Nat.le_refl _)⟩ ?_
  clear q3 s3 t3 x3 y3 z3 hz3 VF
  rintro w4 ⟨B4, lt4_0, c4_0, c4_1, GF⟩
  have z4 : w.heap.size ≤ w4.heap.size := B4.size
  have HP := Lib.hid (H.out.below B4 (Nat.le_refl _)); have HB4 := Lib.hid B4; clear B4
  obtain ⟨bf, of, rfl, hbf, fa⟩ := fan_all GF (by omega)
  have FA := Lib.hid fa; clear fa GF
  go_wp2
  go_loopw [22, 23] (fun v i wr => Below w4.heap.size w4 wr ∧ ∃ (k : Nat) (ii : Int), k ≤ K ∧ ii ≤ (k : Int) + 1 ∧ (k : Int) + 1 ≤ ii ∧ i = .int .i64 ii ∧ OwnI wr w4.heap.size v (fvTo ds ss src n lo dn st knot dist k)) (fun _ i _ => M - (intOf i).toNat)
  case atStart => exact ⟨by first | exact Below.refl _ _ | go_grown, 0, 1, by omega, by omega, by omega, rfl, OwnI.none_ _ _⟩
  case round =>
    obtain ⟨Br, k, ii, hk, hi1, hi2, rfl, A', c', rfl, hc', hown⟩ := hrel
    simp only [fvTo_len] at hown ⊢
    have HO := Lib.hid hown; clear hown
    have sr := Br.size
    have HBr := Lib.hid Br
    have r0 := (bAt Br (b := w.heap.size) (o := 0) (by omega)).trans c4_0
    have r1 := (bAt Br (b := w.heap.size) (o := 1) (by omega)).trans c4_1
    have HR := Lib.hid (HP.out.below Br (Nat.le_refl _))
    by_cases hlt : k < K
    · have ra := fan_ray (m := lo + (k : Int)) dn hp.out hf.out u0 u1 (by omega) (by omega)
      have rb := fan_ray (m := lo + ((k : Int) + 1)) dn hp.out hf.out u0 u1 (by omega) (by omega)
      have hs := fan_sign (m := lo + (k : Int)) (m' := lo + ((k : Int) + 1)) dn hf.out (by omega) (by omega) (by omega) (by omega)
      obtain ⟨a0, a1, a2⟩ := FA.out k (by omega)
      obtain ⟨a3, a4, a5⟩ := FA.out (k + 1) (by omega)
      have ek : ((k + 1 : Nat) : Int) = (k : Int) + 1 := by omega
      rw [ek] at a3 a4 a5
      have b0 := (bAt Br (b := bf) (o := of + k * 3) hbf).trans a0
      have b1 := (bAt Br (b := bf) (o := of + k * 3 + 1) hbf).trans a1
      have b2 := (bAt Br (b := bf) (o := of + k * 3 + 2) hbf).trans a2
      have b3 := (bAt Br (b := bf) (o := of + (k + 1) * 3) hbf).trans a3
      have b4 := (bAt Br (b := bf) (o := of + (k + 1) * 3 + 1) hbf).trans a4
      have b5 := (bAt Br (b := bf) (o := of + (k + 1) * 3 + 2) hbf).trans a5
      clear a0 a1 a2 a3 a4 a5 ek
      have hV : fvI ds ss src n lo dn st knot dist k = cvI ds ss src (mdC (lo + (k : Int)) n) (mdS (lo + (k : Int)) n dn) (mdH (lo + (k : Int)) n) (mdC (lo + ((k : Int) + 1)) n) (mdS (lo + ((k : Int) + 1)) n dn) (mdH (lo + ((k : Int) + 1)) n) st knot dist := rfl
      generalize mdC (lo + (k : Int)) n = c0 at *
      generalize mdS (lo + (k : Int)) n dn = s0_ at *
      generalize mdH (lo + (k : Int)) n = h0 at *
      generalize mdC (lo + ((k : Int) + 1)) n = c9 at *
      generalize mdS (lo + ((k : Int) + 1)) n dn = s9 at *
      generalize mdH (lo + ((k : Int) + 1)) n = h9 at *
      obtain ⟨v, hv⟩ : ∃ x, cvI ds ss src c0 s0_ h0 c9 s9 h9 st knot dist = x := ⟨_, rfl⟩
      rw [hv] at hV
      have LV := Lib.hid (show ∀ cb As Bs cs cs' w, CellF w cb A1 A2 c1 c2 ds ss src c0 s0_ h0 c9 s9 h9 st As Bs cs cs' → Calls Try.prog 62 #[.pointer (some ⟨cb, 0, none⟩), .int .i64 knot, .int .i64 dist] w fun e w' => e = .returned (.int .i64 v) ∧ Below w.heap.size w w' from fun cb As Bs cs cs' w F => by have q := implVerdict_any A1 A2 c1 c2 ds ss src c0 s0_ h0 c9 s9 h9 st cb As Bs cs cs' knot dist w F ra rb hst; rw [hv] at q; exact q)
      have NC := Lib.hid (fun w h => newCell_any A1 A2 c1 c2 ds ss src c0 s0_ h0 c9 s9 h9 st w h ra rb hs hst)
      have HV := Lib.hid hV; clear hV hv ra rb hs Br
      have lbf : bf < wr.heap.size := by omega
      have lp : w.heap.size < wr.heap.size := by omega
      have lbf2 : bf ≤ wr.heap.size := by omega
      have lp2 : w.heap.size ≤ wr.heap.size := by omega
      have gi : ii < (M : Int) := by omega
      have gi0 : (0 : Int) ≤ ii := by omega
      have gi3 : ii.toNat = k + 1 := by omega
      have gk2 : (k : Int) < (M : Int) := by omega
      have gk0 : (0 : Int) ≤ k := by omega
      go_upto_region 11 with fail
      have wi : IntKind.i64.wrap (ii - 1) = (k : Int) := by rw [show ii - 1 = (k : Int) by omega]; exact IntWalk.i64_in _ (by omega)
      go_region_held3 (fun w' => w'.cell? ⟨w.heap.size, 0, none⟩ = some (.slice A1 ds.length c1) ∧ w'.cell? ⟨w.heap.size, 1, none⟩ = some (.slice A2 ss.length c2) ∧ w'.cell? ⟨bf, of + k * 3, none⟩ = some (.int .i64 c0) ∧ w'.cell? ⟨bf, of + k * 3 + 1, none⟩ = some (.int .i64 s0_) ∧ w'.cell? ⟨bf, of + k * 3 + 2, none⟩ = some (.int .i64 h0) ∧ w'.cell? ⟨bf, of + (k + 1) * 3, none⟩ = some (.int .i64 c9) ∧ w'.cell? ⟨bf, of + (k + 1) * 3 + 1, none⟩ = some (.int .i64 s9) ∧ w'.cell? ⟨bf, of + (k + 1) * 3 + 2, none⟩ = some (.int .i64 h9)) (first | (go_keep; done) | (simp [*, go_sem]; done))
        (first
          | (go_at_call 50; refine (NC.out _ (HR.out.below (B := wr.heap.size) (by first | exact Below.refl _ _ | (go_grown; done) | exact bdrewN (by go_grown) _) (Nat.le_refl _))).mono ?_; rintro e w7 ⟨⟨cb, As, Bs, cs, cs', rfl, hcb, F⟩, hb7⟩; have VF := Lib.hid F; clear F; have BB := Lib.hid ((show Below wr.heap.size wr _ from (by first | exact Below.refl _ _ | (go_grown; done) | exact bdrewN (by go_grown) _)).trans (hb7.mono (by first | omega | (simp; done) | (simp; omega)))); obtain ⟨hc7, hf7⟩ := bcell hb7; have hz7 := hb7.size; (try simp only [World.size_alloc, World.size_drew, size_set] at hz7); (try simp only [World.size_alloc, World.size_drew, size_set] at hc7); (try simp only [World.size_alloc, World.size_drew, size_set] at hf7); (try have ly7_0 : w.heap.size < w7.heap.size := (by omega)); (try have lx7_0 : w.heap.size ≤ w7.heap.size := (by omega)); (try have ly7_1 : bf < w7.heap.size := (by omega)); (try have lx7_1 : bf ≤ w7.heap.size := (by omega)); clear hb7))
      clear wi r0 r1 b0 b1 b2 b3 b4 b5
      have s7 : wr.heap.size ≤ w7.heap.size := BB.out.size
      go_wp2_with (first
        | (go_at_call 62; refine (LV.out cb As Bs cs cs' _ (VF.out.below (B := w7.heap.size) (by first | exact Below.refl _ _ | (go_grown; done) | exact bdrewN (by go_grown) _) (Nat.le_refl _))).mono ?_; rintro e w8 ⟨rfl, hb8⟩; have BC := Lib.hid (BB.out.trans ((show Below w7.heap.size w7 _ from (by first | exact Below.refl _ _ | (go_grown; done) | exact bdrewN (by go_grown) _)).trans (hb8.mono (by first | omega | (simp; done) | (simp; omega)))|>.mono s7)); have K8 := Keep.of_below (lo := w4.heap.size) BC.out; have B8 := Lib.hid (HBr.out.trans (BC.out.mono (show w4.heap.size ≤ wr.heap.size by omega))); have sz8 : wr.heap.size ≤ w8.heap.size := BC.out.size; clear hb8)
        | (at_builtin; refine appG rfl _ _ 22 rfl w4.heap.size 2 (.int .i64 0) 1 8 Try.underlying22 infoInt2 rfl (by omega) [.int .i64 v] rfl (by intro u hu; simp at hu; subst hu; rfl) _ _ _ rfl _ rfl (own_keep HO.out (by repeat' (first | with_reducible exact K8 | with_reducible exact Keep.refl _ _ _ | with_reducible refine Keep.setB ?_ ?_ _ | with_reducible refine Keep.alloc ?_ ?_ _ | with_reducible refine Keep.drew ?_ | omega | (simp; done) | (simp; omega)))) ?_ ?_ ?_ ?_ ?_; (focus (intro j u hj; match j, hj with | 0, hj => (simp at hj; subst hj; simp [*, go_sem]) | j + 1, hj => simp at hj)); (focus (unfold maxLen; omega)); (focus omega); (focus (first | omega | (simp; omega))); intro v9 w9 hown9 hg9 _; have C9 := Below.grow (B := w4.heap.size) (w0 := w4) (by have hb_ := B8.out; first | with_reducible exact hb_ | (go_grown; done)) hg9 (fun b hb => by have := HO.out.lt b hb; omega) (by first | omega | (simp; omega)); clear hg9; obtain ⟨A14, c14, rfl, hc14⟩ := owns_form hown9; have O9 := Lib.hid hown9; clear hown9))
      go_roundw
      case rel => exact ⟨C9, k + 1, ii + 1, by omega, by omega, by omega, by first | done | go_num | rfl, OwnI.next (L := fvTo ds ss src n lo dn st knot dist k) ((fvTo_next _ _ _ _ _ _ _ _ _ _).trans (by rw [HV.out])) (by rw [fvTo_len]; exact O9.out)⟩
      case measure => simp [intOf]; omega
    · obtain rfl : k = K := by omega
      have gx : ¬ (ii < (M : Int)) := by omega
      go_wp2
      go_ret2
      refine ⟨⟨A', c', rfl, ?_⟩, HB4.out.trans (HBr.out.mono (by omega))⟩
      exact (OwnI.res (n := k) (L := fvTo ds ss src n lo dn st knot dist k) ⟨A', c', by rw [fvTo_len], hc', by rw [fvTo_len]; exact HO.out⟩).mono (by omega) (Nat.le_refl _)
set_option maxHeartbeats 4000000 in
theorem implFan_any (A1 A2 : Option Addr) (c1 c2 : Nat) (ds ss : List Int) (src n lo hi : Int) (dn : Bool) (st knot dist : Int) (w : World) (h : ProfAt w A1 c1 A2 c2 ds ss) :
    Calls Try.prog 30 #[profV A1 ds.length c1 A2 ss.length c2, .int .i64 src, .int .i64 n, .int .i64 lo, .int .i64 hi, .bool dn, .int .i64 st, .int .i64 knot, .int .i64 dist] w fun e w' => (∃ A' c', e = .returned (.tuple #[.slice A' (fvL ds ss src n lo hi dn st knot dist).length c', .int .i64 (fvE ds ss src n lo hi st knot dist)]) ∧ ResI w' w.heap.size w'.heap.size A' c' (fvL ds ss src n lo hi dn st knot dist)) ∧ Below w.heap.size w w' := by
  have hnl := Nat.le_trans h.1.1 h.1.2.1
  rcases fa_three ds ss src n lo hi st with hc | hc | hc
  rotate_left
  · have hne : faE ds ss src n lo hi st ≠ 0 := by omega
    have ee := fv_bad dn knot dist hne
    rw [hc] at ee
    have EE := Lib.hid ee.1; have EV := Lib.hid ee.2; clear ee
    have FC := Lib.hid (show ∀ w, ProfAt w A1 c1 A2 c2 ds ss → Calls Try.prog 65 #[profV A1 ds.length c1 A2 ss.length c2, .int .i64 src, .int .i64 n, .int .i64 lo, .int .i64 hi, .int .i64 st] w fun e w' => e = .returned (.int .i64 1) ∧ Below w.heap.size w w' from fun w h => by have q := fanCode_any A1 A2 c1 c2 ds ss src n lo hi st w h; rw [hc] at q; exact q)
    have H := Lib.hid h; clear h hne hc
    have RV := Lib.hid (show ∀ w, Calls Try.prog 61 #[profV A1 ds.length c1 A2 ss.length c2, .int .i64 knot, .int .i64 dist] w fun e w' => e = .returned (.bool (rcB ds.length knot dist)) ∧ Below w.heap.size w w' from fun w => by have q := isReceiver_any A1 A2 ds.length ss.length c1 c2 knot dist w hnl; exact q)
    go_enter Try.func30, Try.ntmps30
    go_wp2_with (first
      | (go_at_call 65; refine (FC.out _ (H.out.below (B := w.heap.size) (by first | exact Below.refl _ _ | (go_grown; done) | exact bdrewN (by go_grown) _) (Nat.le_refl _))).mono ?_; rintro e w1 ⟨rfl, hb1⟩; obtain ⟨B1, hz1, q1, s1, t1, x1, y1, z1⟩ := bkeep (w := w) [w.heap.size] (by first | (simp; done) | (simp; omega)) (by first | (go_grown; done) | exact bdrewN (by go_grown) _) hb1; (try simp at hz1); clear hb1)
      | (go_at_call 61; refine (RV.out _).mono ?_; rintro e w2 ⟨rfl, hb2⟩; obtain ⟨B2, hz2, q2, s2, t2, x2, y2, z2⟩ := bkeep (w := w) [w.heap.size] (by first | (simp; done) | (simp; omega)) (by first | (go_grown; done) | exact bdrewN (by go_grown) _) hb2; (try simp at hz2); clear hb2))
    all_goals go_ret2
    all_goals exact ⟨⟨none, 0, by rw [EE.out, EV.out] <;> rfl, by rw [EV.out]; exact ResI.nil _ _ _ _ _ (by omega)⟩, by first | exact (by first | with_reducible exact B2 | (go_grown; done) | with_reducible exact bdrewN B2 _ | (go_grown <;> first | with_reducible exact bdrewN B2 _ | with_reducible exact B2)) | exact (by first | with_reducible exact B1 | (go_grown; done) | with_reducible exact bdrewN B1 _ | (go_grown <;> first | with_reducible exact bdrewN B1 _ | with_reducible exact B1))⟩
  · have hne : faE ds ss src n lo hi st ≠ 0 := by omega
    have ee := fv_bad dn knot dist hne
    rw [hc] at ee
    have EE := Lib.hid ee.1; have EV := Lib.hid ee.2; clear ee
    have FC := Lib.hid (show ∀ w, ProfAt w A1 c1 A2 c2 ds ss → Calls Try.prog 65 #[profV A1 ds.length c1 A2 ss.length c2, .int .i64 src, .int .i64 n, .int .i64 lo, .int .i64 hi, .int .i64 st] w fun e w' => e = .returned (.int .i64 2) ∧ Below w.heap.size w w' from fun w h => by have q := fanCode_any A1 A2 c1 c2 ds ss src n lo hi st w h; rw [hc] at q; exact q)
    have H := Lib.hid h; clear h hne hc
    have RV := Lib.hid (show ∀ w, Calls Try.prog 61 #[profV A1 ds.length c1 A2 ss.length c2, .int .i64 knot, .int .i64 dist] w fun e w' => e = .returned (.bool (rcB ds.length knot dist)) ∧ Below w.heap.size w w' from fun w => by have q := isReceiver_any A1 A2 ds.length ss.length c1 c2 knot dist w hnl; exact q)
    go_enter Try.func30, Try.ntmps30
    go_wp2_with (first
      | (go_at_call 65; refine (FC.out _ (H.out.below (B := w.heap.size) (by first | exact Below.refl _ _ | (go_grown; done) | exact bdrewN (by go_grown) _) (Nat.le_refl _))).mono ?_; rintro e w1 ⟨rfl, hb1⟩; obtain ⟨B1, hz1, q1, s1, t1, x1, y1, z1⟩ := bkeep (w := w) [w.heap.size] (by first | (simp; done) | (simp; omega)) (by first | (go_grown; done) | exact bdrewN (by go_grown) _) hb1; (try simp at hz1); clear hb1)
      | (go_at_call 61; refine (RV.out _).mono ?_; rintro e w2 ⟨rfl, hb2⟩; obtain ⟨B2, hz2, q2, s2, t2, x2, y2, z2⟩ := bkeep (w := w) [w.heap.size] (by first | (simp; done) | (simp; omega)) (by first | (go_grown; done) | exact bdrewN (by go_grown) _) hb2; (try simp at hz2); clear hb2))
    all_goals go_ret2
    all_goals exact ⟨⟨none, 0, by rw [EE.out, EV.out] <;> rfl, by rw [EV.out]; exact ResI.nil _ _ _ _ _ (by omega)⟩, by first | exact (by first | with_reducible exact B2 | (go_grown; done) | with_reducible exact bdrewN B2 _ | (go_grown <;> first | with_reducible exact bdrewN B2 _ | with_reducible exact B2)) | exact (by first | with_reducible exact B1 | (go_grown; done) | with_reducible exact bdrewN B1 _ | (go_grown <;> first | with_reducible exact bdrewN B1 _ | with_reducible exact B1))⟩
  obtain ⟨hp, hf, u0, u1, m, rfl, hm⟩ := fa_zero hc
  obtain ⟨K, hK⟩ : ∃ K : Nat, (hi - lo).toNat = K := ⟨_, rfl⟩
  have k := fan_ok hf
  have kl := k.l1
  rcases Bool.eq_false_or_eq_true (rcB ds.length knot dist) with hr | hr
  · have ee := fv_ok dn hc hr
    rw [ee.1, ee.2, fvTo_len, hK]
    exact implFan_ok A1 A2 c1 c2 ds ss src n lo hi dn m K knot dist w h hp hf u0 u1 hm (by omega) (by omega) hr
  · have ee := fv_far dn hc hr
    have EE := Lib.hid ee.1; have EV := Lib.hid ee.2; clear ee
    have RV := Lib.hid (show ∀ w, Calls Try.prog 61 #[profV A1 ds.length c1 A2 ss.length c2, .int .i64 knot, .int .i64 dist] w fun e w' => e = .returned (.bool false) ∧ Below w.heap.size w w' from fun w => by have q := isReceiver_any A1 A2 ds.length ss.length c1 c2 knot dist w hnl; rw [hr] at q; exact q)
    have FC := Lib.hid (show ∀ w, ProfAt w A1 c1 A2 c2 ds ss → Calls Try.prog 65 #[profV A1 ds.length c1 A2 ss.length c2, .int .i64 src, .int .i64 n, .int .i64 lo, .int .i64 hi, .int .i64 (m : Int)] w fun e w' => e = .returned (.int .i64 0) ∧ Below w.heap.size w w' from fun w h => by have q := fanCode_any A1 A2 c1 c2 ds ss src n lo hi m w h; rw [hc] at q; exact q)
    have H := Lib.hid h; clear h hc hp hf hK k hr
    go_enter Try.func30, Try.ntmps30
    go_wp2_with (first
      | (go_at_call 65; refine (FC.out _ (H.out.below (B := w.heap.size) (by first | exact Below.refl _ _ | (go_grown; done) | exact bdrewN (by go_grown) _) (Nat.le_refl _))).mono ?_; rintro e w1 ⟨rfl, hb1⟩; obtain ⟨B1, hz1, q1, s1, t1, x1, y1, z1⟩ := bkeep (w := w) [w.heap.size] (by first | (simp; done) | (simp; omega)) (by first | (go_grown; done) | exact bdrewN (by go_grown) _) hb1; (try simp at hz1); clear hb1)
      | (go_at_call 61; refine (RV.out _).mono ?_; rintro e w2 ⟨rfl, hb2⟩; obtain ⟨B2, hz2, q2, s2, t2, x2, y2, z2⟩ := bkeep (w := w) [w.heap.size] (by first | (simp; done) | (simp; omega)) (by first | (go_grown; done) | exact bdrewN (by go_grown) _) hb2; (try simp at hz2); clear hb2))
    all_goals go_ret2
    all_goals exact ⟨⟨none, 0, by rw [EE.out, EV.out] <;> rfl, by rw [EV.out]; exact ResI.nil _ _ _ _ _ (by omega)⟩, by first | exact (by first | with_reducible exact B2 | (go_grown; done) | with_reducible exact bdrewN B2 _ | (go_grown <;> first | with_reducible exact bdrewN B2 _ | with_reducible exact B2)) | exact (by first | with_reducible exact B1 | (go_grown; done) | with_reducible exact bdrewN B1 _ | (go_grown <;> first | with_reducible exact bdrewN B1 _ | with_reducible exact B1))⟩
end Go.Proofs.Ytopggkomkfjbfaa
