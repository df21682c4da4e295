/- What a text of a profile reads as: the program's reader and the reference's read the same. -/
import Derived.Test.YtebdokpokbcgjaaDoorRgP
import Derived.Test.YtebdokpokbcgjaaDoorPtS
namespace Go.Proofs.YtebdokpokbcgjaaDoor
set_option linter.unusedSimpArgs false
set_option linter.unusedVariables false
open Go.RowKit

/-- a text of a gauge -/
def rpF (w : List UInt8 → Option (Int × Int)) (l : List UInt8) : Option (List (Int × Int)) := (rdL w (spl 44 l)).bind fun ps => if profB (ps.map Prod.fst) (ps.map Prod.snd) then some ps else none
theorem rp_none {w : List UInt8 → Option (Int × Int)} {l : List UInt8} (hr : rdL w (spl 44 l) = none) : rpF w l = none := by unfold rpF; rw [hr]; rfl
theorem rp_bad {w : List UInt8 → Option (Int × Int)} {l : List UInt8} {ps : List (Int × Int)} (hr : rdL w (spl 44 l) = some ps) (hb : ¬ profB (ps.map Prod.fst) (ps.map Prod.snd) = true) : rpF w l = none := by
  unfold rpF; rw [hr]; show (if profB (ps.map Prod.fst) (ps.map Prod.snd) = true then some ps else none) = none; rw [if_neg hb]
theorem rp_ok {w : List UInt8 → Option (Int × Int)} {l : List UInt8} {ps : List (Int × Int)} (hr : rdL w (spl 44 l) = some ps) (hb : profB (ps.map Prod.fst) (ps.map Prod.snd) = true) : rpF w l = some ps := by
  unfold rpF; rw [hr]; show (if profB (ps.map Prod.fst) (ps.map Prod.snd) = true then some ps else none) = some ps; rw [if_pos hb]
theorem pro_pair {ps : List (Int × Int)} (h : profB (ps.map Prod.fst) (ps.map Prod.snd) = true) : ∀ s ∈ ps, (-1000000000000 < s.1 ∧ s.1 < 1000000000000) ∧ (-1000000000000 < s.2 ∧ s.2 < 1000000000000) := by
  intro s hs
  obtain ⟨-, -, -, g1, -, g2⟩ := pro_is h
  obtain ⟨k, hk⟩ := List.getElem?_of_mem hs
  have a := g1 k s.1 (by rw [List.getElem?_map, hk]; rfl)
  have b := g2 k s.2 (by rw [List.getElem?_map, hk]; rfl)
  omega
theorem rp_eq (l : List UInt8) : rpF (wQ 58) l = rpF (wP 58) l := by
  cases hS : rdL (wP 58) (spl 44 l) with
  | some ps =>
    have hZ := rdL_mono (g := wQ 58) (p := fun _ => True) (spl 44 l) ps (fun z _ s hz _ => wQ_of_P hz) hS (fun _ _ => trivial)
    unfold rpF
    rw [hS, hZ]
  | none =>
    rw [rp_none hS]
    cases hZ : rdL (wQ 58) (spl 44 l) with
    | none => exact rp_none hZ
    | some ps =>
      refine rp_bad hZ fun hb => ?_
      have hS' := rdL_mono (g := wP 58) (p := fun s => (-1000000000000 < s.1 ∧ s.1 < 1000000000000) ∧ (-1000000000000 < s.2 ∧ s.2 < 1000000000000)) (spl 44 l) ps (fun z _ s hz hp => wP_of_Q (by decide) (by decide) hz hp.1 hp.2) hZ (pro_pair hb)
      rw [hS] at hS'
      cases hS'
@[irreducible] def rpT (l : List UInt8) : List Int := ((rpF (wP 58) l).getD []).map Prod.fst
@[irreducible] def rpL (l : List UInt8) : List Int := ((rpF (wP 58) l).getD []).map Prod.snd
@[irreducible] def rpK (l : List UInt8) : Bool := (rpF (wP 58) l).isSome
theorem rp_no {l : List UInt8} (h : rpF (wP 58) l = none) : rpT l = [] ∧ rpL l = [] ∧ rpK l = false := by unfold rpT rpL rpK; rw [h]; exact ⟨rfl, rfl, rfl⟩
theorem rp_yes {l : List UInt8} {ps : List (Int × Int)} (h : rpF (wP 58) l = some ps) : rpT l = ps.map Prod.fst ∧ rpL l = ps.map Prod.snd ∧ rpK l = true := by unfold rpT rpL rpK; rw [h]; exact ⟨rfl, rfl, rfl⟩
theorem rp_len (l : List UInt8) : (rpT l).length ≤ 1000 ∧ (rpL l).length ≤ 1000 := by
  cases h : rpF (wP 58) l with
  | none => obtain ⟨a, b, -⟩ := rp_no h; rw [a, b]; simp
  | some ps =>
    obtain ⟨a, b, -⟩ := rp_yes h
    rw [a, b]
    unfold rpF at h
    cases hr : rdL (wP 58) (spl 44 l) with
    | none => rw [hr] at h; cases h
    | some ys =>
      rw [hr] at h
      simp only [Option.bind_some] at h
      split at h
      · rename_i hb
        injection h with h
        subst h
        obtain ⟨-, l2, l3, -⟩ := pro_is hb
        omega
      · cases h
end Go.Proofs.YtebdokpokbcgjaaDoor
