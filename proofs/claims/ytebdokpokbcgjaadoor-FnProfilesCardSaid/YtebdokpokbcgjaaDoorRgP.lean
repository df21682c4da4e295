/- What a text of a gauge reads as: the program's reader and the reference's read the same. -/
import Derived.Test.YtebdokpokbcgjaaDoorRdP
import Derived.Test.YtebdokpokbcgjaaDoorGau
import Derived.Test.YtebdokpokbcgjaaDoorTwo
namespace Go.Proofs.YtebdokpokbcgjaaDoor
set_option linter.unusedSimpArgs false
set_option linter.unusedVariables false
open Go.RowKit

theorem cut_cases (z : List UInt8) (b : UInt8) : (∀ c ∈ z, c ≠ b) ∨ ∃ p r, z = p ++ b :: r ∧ ∀ c ∈ p, c ≠ b := by
  rcases idx_one z b with ⟨-, h⟩ | ⟨p, r, h1, h2, -⟩
  · exact .inl h
  · exact .inr ⟨p, r, h1, h2⟩
/-- two numbers: a pair -/
def pairI : List Int → Option (Int × Int)
  | [a, b] => some (a, b)
  | _ => none
theorem pair_some {M : List Int} {s : Int × Int} (h : pairI M = some s) : M = [s.1, s.2] := by
  unfold pairI at h
  split at h
  · injection h with h; subst h; rfl
  · cases h
theorem pair_len {M : List Int} (h : M.length = 2) : ∃ s, pairI M = some s := by
  match M, h with
  | [a, b], _ => exact ⟨(a, b), rfl⟩
theorem pair_none {M : List Int} (h : M.length ≠ 2) : pairI M = none := by
  unfold pairI
  split
  · simp at h
  · rfl
/-- a word of two numbers, by the reference -/
def wP (b : UInt8) (z : List UInt8) : Option (Int × Int) := (rdL rdS (spl b z)).bind pairI
/-- the same, by the program -/
def wQ (b : UInt8) (z : List UInt8) : Option (Int × Int) := (rdZ (Lib.cut z [b]).1).bind fun x => (rdZ (Lib.cut z [b]).2.1).bind fun y => some (x, y)
theorem wQ_of {b : UInt8} {z : List UInt8} {x y : Int} (h1 : rdZ (Lib.cut z [b]).1 = some x) (h2 : rdZ (Lib.cut z [b]).2.1 = some y) : wQ b z = some (x, y) := by unfold wQ; rw [h1, h2]; rfl
theorem wQ_no {b : UInt8} {z : List UInt8} (h : rdZ (Lib.cut z [b]).1 = none ∨ rdZ (Lib.cut z [b]).2.1 = none) : wQ b z = none := by
  unfold wQ
  rcases h with h | h
  · rw [h]; rfl
  · rw [h]; cases rdZ (Lib.cut z [b]).1 <;> rfl
theorem wQ_some {b : UInt8} {z : List UInt8} {s : Int × Int} (h : wQ b z = some s) : rdZ (Lib.cut z [b]).1 = some s.1 ∧ rdZ (Lib.cut z [b]).2.1 = some s.2 := by
  unfold wQ at h
  cases h1 : rdZ (Lib.cut z [b]).1 with
  | none => rw [h1] at h; cases h
  | some x =>
    rw [h1] at h
    cases h2 : rdZ (Lib.cut z [b]).2.1 with
    | none => rw [h2] at h; cases h
    | some y =>
      rw [h2] at h
      simp only [Option.bind_some, Option.some.injEq] at h
      subst h
      exact ⟨rfl, rfl⟩
theorem rdL_two {f : List UInt8 → Option Int} {p q : List UInt8} {x y : Int} (h1 : f p = some x) (h2 : f q = some y) : rdL f [p, q] = some [x, y] := by
  simp [rdL, h1, h2]
theorem wQ_of_P {b : UInt8} {z : List UInt8} {s : Int × Int} (h : wP b z = some s) : wQ b z = some s := by
  unfold wP at h
  cases hr : rdL rdS (spl b z) with
  | none => rw [hr] at h; cases h
  | some M =>
    rw [hr] at h
    have hM := pair_some h
    have hlen := rdL_len _ _ hr
    rw [hM] at hlen
    rcases cut_cases z b with hn | ⟨p, r, rfl, hp⟩
    · unfold spl at hlen
      rw [splB_miss b z [] hn] at hlen
      simp at hlen
    · have e1 : spl b (p ++ b :: r) = p :: spl b r := by unfold spl; rw [splB_hit b p r [] hp]; rfl
      rcases cut_cases r b with hn | ⟨p', r', rfl, hp'⟩
      · have e2 : spl b r = [r] := by unfold spl; rw [splB_miss b r [] hn]; rfl
        rw [e1, e2] at hr
        have hc := lib_cut_hit b (r := r) hp
        cases h1 : rdS p with
        | none => simp [rdL, h1] at hr
        | some x =>
          cases h2 : rdS r with
          | none => simp [rdL, h1, h2] at hr
          | some y =>
            rw [rdL_two h1 h2] at hr
            injection hr with hr
            rw [hM] at hr
            simp only [List.cons.injEq, and_true] at hr
            obtain ⟨rfl, rfl⟩ := hr
            exact wQ_of (by rw [hc]; exact rdZ_of_S h1) (by rw [hc]; exact rdZ_of_S h2)
      · have e2 : spl b (p' ++ b :: r') = p' :: spl b r' := by unfold spl; rw [splB_hit b p' r' [] hp']; rfl
        have := spl_pos b r'
        rw [e1, e2] at hlen
        simp only [List.length_cons, List.length_nil] at hlen
        omega
theorem rdZ_nil : rdZ [] = none := by rfl
theorem wP_of_Q {b : UInt8} (hb : b ≠ 45) (hd : dgB b = false) {z : List UInt8} {s : Int × Int} (h : wQ b z = some s) (h1 : -1000000000000 < s.1 ∧ s.1 < 1000000000000) (h2 : -1000000000000 < s.2 ∧ s.2 < 1000000000000) : wP b z = some s := by
  obtain ⟨r1, r2⟩ := wQ_some h
  rcases cut_cases z b with hn | ⟨p, r, rfl, hp⟩
  · rw [lib_cut_miss b hn] at r2
    rw [show (([] : List UInt8), false).1 = [] from rfl, rdZ_nil] at r2
    cases r2
  · rw [lib_cut_hit b hp] at r1 r2
    have e1 : spl b (p ++ b :: r) = p :: spl b r := by unfold spl; rw [splB_hit b p r [] hp]; rfl
    have r2' : rdZ r = some s.2 := r2
    have hr : ∀ c ∈ r, c ≠ b := by rw [rdZ_of r2']; exact itoa_no hb hd
    have e2 : spl b r = [r] := by unfold spl; rw [splB_miss b r [] hr]; rfl
    unfold wP
    rw [e1, e2, rdL_two (rdS_of_Z r1 h1.1 h1.2) (rdS_of_Z r2 h2.1 h2.2)]
    rfl
/-- a text of a gauge -/
def rgF (w : List UInt8 → Option (Int × Int)) (l : List UInt8) : Option (List (Int × Int)) := (rdL w (spl 32 l)).bind fun ps => if gauB (ps.map Prod.fst) (ps.map Prod.snd) then some ps else none
theorem rg_none {w : List UInt8 → Option (Int × Int)} {l : List UInt8} (hr : rdL w (spl 32 l) = none) : rgF w l = none := by unfold rgF; rw [hr]; rfl
theorem rg_bad {w : List UInt8 → Option (Int × Int)} {l : List UInt8} {ps : List (Int × Int)} (hr : rdL w (spl 32 l) = some ps) (hb : ¬ gauB (ps.map Prod.fst) (ps.map Prod.snd) = true) : rgF w l = none := by
  unfold rgF; rw [hr]; show (if gauB (ps.map Prod.fst) (ps.map Prod.snd) = true then some ps else none) = none; rw [if_neg hb]
theorem rg_ok {w : List UInt8 → Option (Int × Int)} {l : List UInt8} {ps : List (Int × Int)} (hr : rdL w (spl 32 l) = some ps) (hb : gauB (ps.map Prod.fst) (ps.map Prod.snd) = true) : rgF w l = some ps := by
  unfold rgF; rw [hr]; show (if gauB (ps.map Prod.fst) (ps.map Prod.snd) = true then some ps else none) = some ps; rw [if_pos hb]
theorem gau_pair {ps : List (Int × Int)} (h : gauB (ps.map Prod.fst) (ps.map Prod.snd) = true) : ∀ s ∈ ps, (-1000000000000 < s.1 ∧ s.1 < 1000000000000) ∧ (-1000000000000 < s.2 ∧ s.2 < 1000000000000) := by
  intro s hs
  obtain ⟨-, -, -, g1, -, g2⟩ := gau_is h
  obtain ⟨k, hk⟩ := List.getElem?_of_mem hs
  have a := g1 k s.1 (by rw [List.getElem?_map, hk]; rfl)
  have b := g2 k s.2 (by rw [List.getElem?_map, hk]; rfl)
  omega
theorem rg_eq (l : List UInt8) : rgF (wQ 64) l = rgF (wP 64) l := by
  cases hS : rdL (wP 64) (spl 32 l) with
  | some ps =>
    have hZ := rdL_mono (g := wQ 64) (p := fun _ => True) (spl 32 l) ps (fun z _ s hz _ => wQ_of_P hz) hS (fun _ _ => trivial)
    unfold rgF
    rw [hS, hZ]
  | none =>
    rw [rg_none hS]
    cases hZ : rdL (wQ 64) (spl 32 l) with
    | none => exact rg_none hZ
    | some ps =>
      refine rg_bad hZ fun hb => ?_
      have hS' := rdL_mono (g := wP 64) (p := fun s => (-1000000000000 < s.1 ∧ s.1 < 1000000000000) ∧ (-1000000000000 < s.2 ∧ s.2 < 1000000000000)) (spl 32 l) ps (fun z _ s hz hp => wP_of_Q (by decide) (by decide) hz hp.1 hp.2) hZ (gau_pair hb)
      rw [hS] at hS'
      cases hS'
@[irreducible] def rgT (l : List UInt8) : List Int := ((rgF (wP 64) l).getD []).map Prod.fst
@[irreducible] def rgL (l : List UInt8) : List Int := ((rgF (wP 64) l).getD []).map Prod.snd
@[irreducible] def rgK (l : List UInt8) : Bool := (rgF (wP 64) l).isSome
theorem rg_no {l : List UInt8} (h : rgF (wP 64) l = none) : rgT l = [] ∧ rgL l = [] ∧ rgK l = false := by unfold rgT rgL rgK; rw [h]; exact ⟨rfl, rfl, rfl⟩
theorem rg_yes {l : List UInt8} {ps : List (Int × Int)} (h : rgF (wP 64) l = some ps) : rgT l = ps.map Prod.fst ∧ rgL l = ps.map Prod.snd ∧ rgK l = true := by unfold rgT rgL rgK; rw [h]; exact ⟨rfl, rfl, rfl⟩
theorem rg_len (l : List UInt8) : (rgT l).length ≤ 1000 ∧ (rgL l).length ≤ 1000 := by
  cases h : rgF (wP 64) l with
  | none => obtain ⟨a, b, -⟩ := rg_no h; rw [a, b]; simp
  | some ps =>
    obtain ⟨a, b, -⟩ := rg_yes h
    rw [a, b]
    unfold rgF at h
    cases hr : rdL (wP 64) (spl 32 l) with
    | none => rw [hr] at h; cases h
    | some ys =>
      rw [hr] at h
      simp only [Option.bind_some] at h
      split at h
      · rename_i hb
        injection h with h
        subst h
        obtain ⟨-, l2, l3, -⟩ := gau_is hb
        omega
      · cases h
theorem StrsAt.chgB {w w1 : World} {g off c lo hi : Nat} {L : List (List UInt8)} (h : StrsAt w (some ⟨g, off, none⟩) c L) (hb : ChgB lo hi w w1) (hr : g < lo ∨ hi ≤ g) : StrsAt w1 (some ⟨g, off, none⟩) c L := by
  obtain ⟨h1, h2, g', off', e, hlt, hc⟩ := h
  simp only [Option.some.injEq, Addr.mk.injEq, and_true] at e
  obtain ⟨rfl, rfl⟩ := e
  exact ⟨h1, h2, g, off, rfl, Nat.lt_of_lt_of_le hlt hb.size, fun j z hz => (World.cell?_of_block (w := w) (hb.block g hlt hr)).trans (hc j z hz)⟩
theorem IntsAt.two_ {w : World} {A : Option Addr} {c : Nat} {x y : Int} (h : IntsAt w A c [x, y]) : ∃ b off, A = some ⟨b, off, none⟩ ∧ b < w.heap.size ∧ w.cell? ⟨b, off, none⟩ = some (.int .i64 x) ∧ w.cell? ⟨b, off + 1, none⟩ = some (.int .i64 y) := by
  rcases h.2.2 with e | ⟨b, off, rfl, hb, hc⟩
  · cases e
  · exact ⟨b, off, rfl, hb, hc 0 _ rfl, hc 1 _ rfl⟩
section
variable {w w1 W : World} {lo hi base xb : Nat}
theorem ChgB.refl_ (lo hi : Nat) (w : World) : ChgB lo hi w w := ⟨rfl, rfl, rfl, Nat.le_refl _, fun _ _ _ => rfl⟩
theorem ChgB.alloc_ (h : ChgB lo hi w w1) (o : Obj) : ChgB lo hi w (w1.alloc o) := h.trans (ChgB.of_below ((Below.refl _ _).alloc (Nat.le_refl _) o))
theorem ChgB.drew_ (h : ChgB lo hi w w1) : ChgB lo hi w w1.drew := ⟨h.os, h.tape, h.output, by simpa using h.size, h.block⟩
theorem ChgB.setI_ {b o : Nat} (h : ChgB lo hi w w1) (h1 : lo ≤ b) (h2 : b < hi) (v : Value) : ChgB lo hi w (w1.setCell ⟨b, o, none⟩ v) :=
  h.trans ⟨rfl, rfl, rfl, by rw [size_set]; exact Nat.le_refl _, fun k _ hk => heap_setCell_other _ _ _ _ (by show k ≠ b; omega)⟩
theorem ChgB.far_ (h : ChgB lo hi w W) (F : Far base xb W w1) (hB : w.heap.size ≤ base) : ChgB lo hi w w1 :=
  ⟨F.os.trans h.os, F.tape.trans h.tape, F.output.trans h.output, Nat.le_trans h.size F.size, fun b hb hr => (F.block b (Nat.lt_of_lt_of_le hb h.size) (.inl (by omega))).trans (h.block b hb hr)⟩
end
theorem cut_len (z : List UInt8) (b : UInt8) : (Lib.cut z [b]).1.length ≤ z.length ∧ (Lib.cut z [b]).2.1.length ≤ z.length := by
  rcases cut_cases z b with h | ⟨p, r, rfl, hp⟩
  · rw [lib_cut_miss b h]; simp
  · rw [lib_cut_hit b hp]; simp; omega
end Go.Proofs.YtebdokpokbcgjaaDoor
