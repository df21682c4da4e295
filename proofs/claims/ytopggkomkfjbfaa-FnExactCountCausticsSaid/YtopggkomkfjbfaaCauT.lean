/- Traces of a fan in memory. -/
import Derived.Test.YtopggkomkfjbfaaFanV
import Derived.Test.YtopggkomkfjbfaaApp
namespace Go.Proofs.Ytopggkomkfjbfaa
set_option linter.unusedSimpArgs false
set_option linter.unusedVariables false
open Go.RowKit

/-- the traces of a fan's directions in memory: the blocks of their events lie apart from two growing rows -/
def TrsI (ds ss : List Int) (src n lo : Int) (dn : Bool) (st : Nat) (w : World) (v1 v2 : Value) (els : List (List Value)) : Prop :=
  ∀ (i : Nat) e, els[i]? = some e → ∃ Ae ce As cs Ad cd l h, e = [.slice Ae st ce, .slice As st cs, .slice Ad st cd] ∧ ResI w l h Ae ce (trE ds ss src (mdC (lo + (i : Int)) n) (mdH (lo + (i : Int)) n) (rs0 src (mdS (lo + (i : Int)) n dn)) st) ∧ h ≤ w.heap.size ∧ (∀ g, v1.ownBlock = some g → g < l ∨ h ≤ g) ∧ (∀ g, v2.ownBlock = some g → g < l ∨ h ≤ g)
section
variable {ds ss : List Int} {src n lo : Int} {dn : Bool} {st : Nat} {w w1 : World} {v1 v2 v' : Value} {els : List (List Value)}
theorem TrsI.nil : TrsI ds ss src n lo dn st w v1 v2 [] := fun i e h => by simp at h
theorem TrsI.below {B : Nat} (h : TrsI ds ss src n lo dn st w v1 v2 els) (hb : Below B w w1) (hB : w.heap.size ≤ B) : TrsI ds ss src n lo dn st w1 v1 v2 els := fun i e he => by
  obtain ⟨Ae, ce, As, cs, Ad, cd, l, hh, e1, r, s, a, b⟩ := h i e he
  exact ⟨Ae, ce, As, cs, Ad, cd, l, hh, e1, r.below hb (by omega), by have := hb.size; omega, a, b⟩
theorem TrsI.grow1 (h : TrsI ds ss src n lo dn st w v1 v2 els) (hg : w.grownBy w1 v1.ownBlock) (hat : v'.ownBlock = v1.ownBlock ∨ v'.ownBlock = some w.heap.size) : TrsI ds ss src n lo dn st w1 v' v2 els := fun i e he => by
  obtain ⟨Ae, ce, As, cs, Ad, cd, l, hh, e1, r, s, a, b⟩ := h i e he
  refine ⟨Ae, ce, As, cs, Ad, cd, l, hh, e1, r.keep hg.size (fun k k0 k1 => hg.block k (by omega) (fun q => by have := a k q.symm; omega)), by have := hg.size; omega, fun g q => ?_, b⟩
  rcases hat with t | t
  · exact a g (t ▸ q)
  · rw [t] at q; simp only [Option.some.injEq] at q; omega
theorem TrsI.grow2 (h : TrsI ds ss src n lo dn st w v1 v2 els) (hg : w.grownBy w1 v2.ownBlock) (hat : v'.ownBlock = v2.ownBlock ∨ v'.ownBlock = some w.heap.size) : TrsI ds ss src n lo dn st w1 v1 v' els := fun i e he => by
  obtain ⟨Ae, ce, As, cs, Ad, cd, l, hh, e1, r, s, a, b⟩ := h i e he
  refine ⟨Ae, ce, As, cs, Ad, cd, l, hh, e1, r.keep hg.size (fun k k0 k1 => hg.block k (by omega) (fun q => by have := b k q.symm; omega)), by have := hg.size; omega, a, fun g q => ?_⟩
  rcases hat with t | t
  · exact b g (t ▸ q)
  · rw [t] at q; simp only [Option.some.injEq] at q; omega
theorem TrsI.next {i : Nat} {Ae As Ad : Option Addr} {ce cs cd l hh : Nat} (h : TrsI ds ss src n lo dn st w v1 v2 els) (hl : els.length = i) (r : ResI w l hh Ae ce (trE ds ss src (mdC (lo + (i : Int)) n) (mdH (lo + (i : Int)) n) (rs0 src (mdS (lo + (i : Int)) n dn)) st)) (s : hh ≤ w.heap.size) (a : ∀ g, v1.ownBlock = some g → g < l ∨ hh ≤ g) (b : ∀ g, v2.ownBlock = some g → g < l ∨ hh ≤ g) : TrsI ds ss src n lo dn st w v1 v2 (els ++ [[.slice Ae st ce, .slice As st cs, .slice Ad st cd]]) := fun j e he => by
  rcases Nat.lt_or_ge j els.length with q | q
  · rw [List.getElem?_append_left q] at he; exact h j e he
  · rw [List.getElem?_append_right q] at he
    have e0 : j - els.length = 0 := by
      rcases Nat.eq_zero_or_pos (j - els.length) with z | z
      · exact z
      · rw [List.getElem?_eq_none (by simp; omega)] at he; simp at he
    rw [e0] at he
    simp only [List.getElem?_cons_zero, Option.some.injEq] at he
    obtain rfl : j = i := by omega
    exact ⟨Ae, ce, As, cs, Ad, cd, l, hh, he.symm, r, s, a, b⟩
end
def rgF (ds ss : List Int) (src n lo : Int) (dn : Bool) (st k : Nat) : List (List Value) := (List.range k).map fun (i : Nat) => ivCell ((rwAt ds ss src (mdC (lo + (i : Int)) n) (mdS (lo + (i : Int)) n dn) (mdH (lo + (i : Int)) n) st).lo, (rwAt ds ss src (mdC (lo + (i : Int)) n) (mdS (lo + (i : Int)) n dn) (mdH (lo + (i : Int)) n) st).hi)
theorem rgF_len (ds ss : List Int) (src n lo : Int) (dn : Bool) (st k : Nat) : (rgF ds ss src n lo dn st k).length = k := by rw [rgF, List.length_map, List.length_range]
theorem rgF_next (ds ss : List Int) (src n lo : Int) (dn : Bool) (st k : Nat) : rgF ds ss src n lo dn st (k + 1) = rgF ds ss src n lo dn st k ++ [ivCell ((rwAt ds ss src (mdC (lo + (k : Int)) n) (mdS (lo + (k : Int)) n dn) (mdH (lo + (k : Int)) n) st).lo, (rwAt ds ss src (mdC (lo + (k : Int)) n) (mdS (lo + (k : Int)) n dn) (mdH (lo + (k : Int)) n) st).hi)] := by rw [rgF, List.range_succ, List.map_append]; rfl
theorem infoTr : (Try.prog.info? 87).map (fun i => (i.zero, i.size, i.bytes)) = some (some (.agg #[.slice none 0 0, .slice none 0 0, .slice none 0 0]), 3, 72) := by kernel_rfl
theorem tr_ne : 29 ≠ 87 := by decide
/-- the last state of a trace -/
theorem lastAt_any (a c : Value) (A1 A2 : Option Addr) (n1 c1 n2 c2 : Nat) (ds ss : List Int) (src co si hy : Int) (st : Nat) (As : Option Addr) (cs : Nat) (w : World) (h : KAt w As cs 4 ((trS ds ss src co hy (rs0 src si) st).map rsCell)) (r : RayOk ds ss src co si hy) (hn : st ≤ 100) (k : Int) (d : Bool) (l u : Int) (hx : rwAt ds ss src co si hy st = ⟨k, d, l, u⟩) :
    Calls Try.prog 68 #[trV a (.slice As st cs) c, rayV A1 n1 c1 A2 n2 c2 src co si hy] w fun e w' => e = .returned (rsV k d l u) ∧ Below w.heap.size w w' := by
  rcases st with _ | m
  · simp only [rwAt, sumN, kdAt, Rs.mk.injEq] at hx
    obtain ⟨rfl, rfl, rfl, rfl⟩ := hx
    exact last_zero _ _ _ _ _ _ _ _ _ _ _ _ _ _ _
  · obtain ⟨b, off, rfl, hb, d0, d1, d2, d3⟩ := state_cells (k := m) h (by omega)
    rw [(no_limit r (m + 1) hn).2, hx] at d0 d1 d2 d3
    exact last_some _ _ _ _ _ _ _ _ _ _ _ _ b off m _ ⟨k, d, l, u⟩ _ (by omega) d0 d1 d2 d3 hb

theorem rg_all {w : World} {A : Option Addr} {c : Nat} {ds ss : List Int} {src n lo : Int} {dn : Bool} {st M : Nat} (h : KAt w A c 2 (rgF ds ss src n lo dn st M)) (hM : 0 < M) :
    ∃ b off, A = some ⟨b, off, none⟩ ∧ b < w.heap.size ∧ ∀ i : Nat, i < M → w.cell? ⟨b, off + i * 2, none⟩ = some (.int .i64 (rwAt ds ss src (mdC (lo + (i : Int)) n) (mdS (lo + (i : Int)) n dn) (mdH (lo + (i : Int)) n) st).lo) ∧ w.cell? ⟨b, off + i * 2 + 1, none⟩ = some (.int .i64 (rwAt ds ss src (mdC (lo + (i : Int)) n) (mdS (lo + (i : Int)) n dn) (mdH (lo + (i : Int)) n) st).hi) := by
  have one : ∀ i : Nat, i < M → ∃ b off, A = some ⟨b, off, none⟩ ∧ b < w.heap.size ∧ w.cell? ⟨b, off + i * 2, none⟩ = some (.int .i64 (rwAt ds ss src (mdC (lo + (i : Int)) n) (mdS (lo + (i : Int)) n dn) (mdH (lo + (i : Int)) n) st).lo) ∧ w.cell? ⟨b, off + i * 2 + 1, none⟩ = some (.int .i64 (rwAt ds ss src (mdC (lo + (i : Int)) n) (mdS (lo + (i : Int)) n dn) (mdH (lo + (i : Int)) n) st).hi) := fun i hi => by
    obtain ⟨b, off, e, rfl, hb, he, hc⟩ := h.at_ (i := i) (by rw [rgF_len]; exact hi)
    rw [rgF, List.getElem?_map, List.getElem?_range hi] at he
    simp only [Option.map_some, Option.some.injEq] at he
    subst he
    exact ⟨b, off, rfl, hb, by have := hc 0 _ rfl; simpa using this, hc 1 _ rfl⟩
  obtain ⟨b, off, rfl, hb, -⟩ := one 0 hM
  refine ⟨b, off, rfl, hb, fun i hi => ?_⟩
  obtain ⟨b', off', e, -, q⟩ := one i hi
  simp only [Option.some.injEq, Addr.mk.injEq, and_true] at e
  obtain ⟨rfl, rfl⟩ := e
  exact q
theorem tr_all {w : World} {A : Option Addr} {c : Nat} {ds ss : List Int} {src n lo : Int} {dn : Bool} {st M : Nat} {v1 v2 : Value} {els : List (List Value)} (h : KAt w A c 3 els) (hl : els.length = M) (hT : TrsI ds ss src n lo dn st w v1 v2 els) (hM : 0 < M) :
    ∃ b off, A = some ⟨b, off, none⟩ ∧ b < w.heap.size ∧ ∀ i : Nat, i < M → ∃ Ae ce, w.cell? ⟨b, off + i * 3, none⟩ = some (.slice Ae st ce) ∧ IntsAt w Ae ce (trE ds ss src (mdC (lo + (i : Int)) n) (mdH (lo + (i : Int)) n) (rs0 src (mdS (lo + (i : Int)) n dn)) st) := by
  have one : ∀ i : Nat, i < M → ∃ b off, A = some ⟨b, off, none⟩ ∧ b < w.heap.size ∧ ∃ Ae ce, w.cell? ⟨b, off + i * 3, none⟩ = some (.slice Ae st ce) ∧ IntsAt w Ae ce (trE ds ss src (mdC (lo + (i : Int)) n) (mdH (lo + (i : Int)) n) (rs0 src (mdS (lo + (i : Int)) n dn)) st) := fun i hi => by
    obtain ⟨b, off, e, rfl, hb, he, hc⟩ := h.at_ (i := i) (by omega)
    obtain ⟨Ae, ce, As, cs, Ad, cd, l, hh, rfl, r, -⟩ := hT i e he
    exact ⟨b, off, rfl, hb, Ae, ce, by have := hc 0 _ rfl; simpa using this, r.at⟩
  obtain ⟨b, off, rfl, hb, -⟩ := one 0 hM
  refine ⟨b, off, rfl, hb, fun i hi => ?_⟩
  obtain ⟨b', off', e, -, q⟩ := one i hi
  simp only [Option.some.injEq, Addr.mk.injEq, and_true] at e
  obtain ⟨rfl, rfl⟩ := e
  exact q
end Go.Proofs.Ytopggkomkfjbfaa
