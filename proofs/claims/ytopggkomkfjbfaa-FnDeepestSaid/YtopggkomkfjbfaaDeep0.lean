/- The greatest depth along a ray; plain. -/
import Derived.Test.YtopggkomkfjbfaaTraceRay
import Derived.Test.YtopggkomkfjbfaaRanges
import Derived.Test.YtopggkomkfjbfaaTd2
namespace Go.Proofs.Ytopggkomkfjbfaa
set_option linter.unusedSimpArgs false
set_option linter.unusedVariables false
open Go.RowKit

def tdl (ds ss : List Int) (src co hy : Int) (x : Rs) : Int := tdLo ds ss src co hy (nearK (layK x.k x.d) x.d) (farK (layK x.k x.d) x.d)
def tdh (ds ss : List Int) (src co hy : Int) (x : Rs) : Int := tdHi ds ss src co hy (nearK (layK x.k x.d) x.d) (farK (layK x.k x.d) x.d)
def dpLo (ds ss : List Int) (src co hy : Int) (x : Rs) : Nat → Int
  | 0 => spd ds src
  | k + 1 => if rsEv ds ss src co hy (rsAt ds ss src co hy x k) = 2 then max (max (dpLo ds ss src co hy x k) (spd ds (rsAt ds ss src co hy x (k + 1)).k)) (tdl ds ss src co hy (rsAt ds ss src co hy x k)) else max (dpLo ds ss src co hy x k) (spd ds (rsAt ds ss src co hy x (k + 1)).k)
def dpHi (ds ss : List Int) (src co hy : Int) (x : Rs) : Nat → Int
  | 0 => spd ds src
  | k + 1 => if rsEv ds ss src co hy (rsAt ds ss src co hy x k) = 2 then max (max (dpHi ds ss src co hy x k) (spd ds (rsAt ds ss src co hy x (k + 1)).k)) (tdh ds ss src co hy (rsAt ds ss src co hy x k)) else max (dpHi ds ss src co hy x k) (spd ds (rsAt ds ss src co hy x (k + 1)).k)
theorem dpLo_succ (ds ss : List Int) (src co hy : Int) (x : Rs) (k : Nat) : dpLo ds ss src co hy x (k + 1) = if rsEv ds ss src co hy (rsAt ds ss src co hy x k) = 2 then max (max (dpLo ds ss src co hy x k) (spd ds (rsAt ds ss src co hy x (k + 1)).k)) (tdl ds ss src co hy (rsAt ds ss src co hy x k)) else max (dpLo ds ss src co hy x k) (spd ds (rsAt ds ss src co hy x (k + 1)).k) := rfl
theorem dpHi_succ (ds ss : List Int) (src co hy : Int) (x : Rs) (k : Nat) : dpHi ds ss src co hy x (k + 1) = if rsEv ds ss src co hy (rsAt ds ss src co hy x k) = 2 then max (max (dpHi ds ss src co hy x k) (spd ds (rsAt ds ss src co hy x (k + 1)).k)) (tdh ds ss src co hy (rsAt ds ss src co hy x k)) else max (dpHi ds ss src co hy x k) (spd ds (rsAt ds ss src co hy x (k + 1)).k) := rfl
theorem rs_ex (x : Rs) : ∃ k d lo hi, x = ⟨k, d, lo, hi⟩ := ⟨x.k, x.d, x.lo, x.hi, rfl⟩
theorem rs0_eq (src si : Int) : (⟨src, decide (0 < si), 0, 0⟩ : Rs) = rs0 src si := rfl
theorem rs_at0 {ds ss : List Int} {src co si hy : Int} (r : RayOk ds ss src co si hy) (n : Nat) (h : rsC ds ss src co hy (rs0 src si) n = 0) : RsOk ss src co hy (rsAt ds ss src co hy (rs0 src si) n) := rs_at r (rs_first r) n h
@[irreducible] def deLo (ds ss : List Int) (src co si hy n : Int) : Int := if trCo ds ss src co si hy n = 0 then dpLo ds ss src co hy (rs0 src si) n.toNat else 0
@[irreducible] def deHi (ds ss : List Int) (src co si hy n : Int) : Int := if trCo ds ss src co si hy n = 0 then dpHi ds ss src co hy (rs0 src si) n.toNat else 0
theorem de_ok {ds ss : List Int} {src co si hy : Int} {m : Nat} (h : trCo ds ss src co si hy m = 0) : deLo ds ss src co si hy m = dpLo ds ss src co hy (rs0 src si) m ∧ deHi ds ss src co si hy m = dpHi ds ss src co hy (rs0 src si) m := by
  unfold deLo deHi; rw [if_pos h, if_pos h, Int.toNat_natCast]; exact ⟨rfl, rfl⟩
theorem de_no {ds ss : List Int} {src co si hy n : Int} (h : trCo ds ss src co si hy n ≠ 0) : deLo ds ss src co si hy n = 0 ∧ deHi ds ss src co si hy n = 0 := by unfold deLo deHi; rw [if_neg h, if_neg h]; exact ⟨rfl, rfl⟩
/-- what a turn says of its state -/
theorem ev_turn {ds ss : List Int} {src co hy : Int} {x : Rs} (h : rsEv ds ss src co hy x = 2) : inn ds x.k x.d = true ∧ canB ss src co hy (farK (layK x.k x.d) x.d) = false := by
  unfold rsEv stV at h
  rcases Bool.eq_false_or_eq_true (inn ds x.k x.d) with hi | hi
  · refine ⟨hi, ?_⟩
    rw [hi, if_pos rfl] at h
    by_cases he : stE ds ss src co hy x.k x.d x.lo x.hi = 0
    · rw [if_pos he] at h
      rcases Bool.eq_false_or_eq_true (canB ss src co hy (farK (layK x.k x.d) x.d)) with hc | hc
      · rw [hc, if_pos rfl] at h; exact absurd h (by decide)
      · exact hc
    · rw [if_neg he] at h; exact absurd h (by decide)
  · rw [hi] at h
    simp only [Bool.false_eq_true, if_false] at h
    split at h <;> exact absurd h (by decide)
theorem turn_facts {ds ss : List Int} {src co si hy : Int} {x : Rs} (r : RayOk ds ss src co si hy) (hx : RsOk ss src co hy x) (h : rsEv ds ss src co hy x = 2) :
    0 ≤ nearK (layK x.k x.d) x.d ∧ nearK (layK x.k x.d) x.d < ss.length ∧ 0 ≤ farK (layK x.k x.d) x.d ∧ farK (layK x.k x.d) x.d < ss.length ∧ canB ss src co hy (nearK (layK x.k x.d) x.d) = true ∧ canB ss src co hy (farK (layK x.k x.d) x.d) = false ∧ inn ds x.k x.d = true := by
  obtain ⟨hi, hf⟩ := ev_turn h
  obtain ⟨l0, l1⟩ := lay_bd r hx.k0 hx.k1 hi
  obtain ⟨f0, f1⟩ := far_bd x.d l0 l1
  have e := near_lay x.k x.d
  refine ⟨by rw [e]; exact hx.k0, by rw [e]; exact hx.k1, f0, f1, by rw [e]; exact hx.hc, hf, hi⟩
theorem turn_td {ds ss : List Int} {src co si hy : Int} {x : Rs} (r : RayOk ds ss src co si hy) (hx : RsOk ss src co hy x) (h : rsEv ds ss src co hy x = 2) :
    tLo ds ss src co si hy (layK x.k x.d) x.d = tdl ds ss src co hy x ∧ tHi ds ss src co si hy (layK x.k x.d) x.d = tdh ds ss src co hy x := by
  obtain ⟨hi, hf⟩ := ev_turn h
  obtain ⟨l0, l1⟩ := lay_bd r hx.k0 hx.k1 hi
  obtain ⟨n0, n1, f0, f1, hn, hf, -⟩ := turn_facts r hx h
  have h0 : rayE ds ss src co si hy 0 = 0 := rayE_zero (k := 0) r
  have ha : arcE ds ss src co si hy (layK x.k x.d) = 0 := by
    unfold arcE
    have : inB (layK x.k x.d) 0 ((ds.length : Int) - 2) = true := by have := r.l2; have := r.l3; simp [inB]; omega
    rw [if_pos h0, this, if_pos rfl]
  have hv : vaE 2 ds ss src co si hy (layK x.k x.d) x.d = 0 := by
    unfold vaE
    have : vdI ss src co hy (nearK (layK x.k x.d) x.d) (farK (layK x.k x.d) x.d) = 2 := by unfold vdI; rw [hn, hf]; rfl
    rw [if_pos ha, if_pos this]
  unfold tLo tHi
  rw [if_pos hv, if_pos hv]
  exact ⟨rfl, rfl⟩
/-- the cell of the k-th event -/
theorem event_cell {w : World} {A : Option Addr} {c m k : Nat} {ds ss : List Int} {src co hy : Int} {x : Rs} (h : IntsAt w A c (trE ds ss src co hy x m)) (hk : k < m) :
    ∃ b off, A = some ⟨b, off, none⟩ ∧ b < w.heap.size ∧ w.cell? ⟨b, off + k, none⟩ = some (.int .i64 (rsEv ds ss src co hy (rsAt ds ss src co hy x k))) := by
  obtain ⟨b, off, e, rfl, hb, he, hc⟩ := h.at_ (k := k) (by rw [trE_len]; omega)
  rw [trE_get _ _ _ _ _ _ _ _ hk] at he
  simp only [Option.some.injEq] at he
  subst he
  exact ⟨b, off, rfl, hb, hc⟩
end Go.Proofs.Ytopggkomkfjbfaa
