/- What a text of soundings reads as: the program's reader and the reference's read the same. -/
import Derived.Test.YtebdokpokbcgjaaDoorRdK
import Derived.Test.YtebdokpokbcgjaaDoorSnd1
import Derived.Deep.AppendLies
import Derived.Deep.RegionLaw
namespace Go.Proofs.YtebdokpokbcgjaaDoor
set_option linter.unusedSimpArgs false
set_option linter.unusedVariables false
open Go.RowKit

theorem rdZ_of_S {z : List UInt8} {v : Int} (h : rdS z = some v) : rdZ z = some v := by
  obtain ⟨h1, h2, h3⟩ := rdS_some h
  subst h1
  exact rdZ_itoa (by omega) (by omega)
theorem rdS_of_Z {z : List UInt8} {v : Int} (h : rdZ z = some v) (h1 : -1000000000000 < v) (h2 : v < 1000000000000) : rdS z = some v := by
  have := rdZ_of h
  subst this
  exact rdS_itoa h1 h2
/-- four numbers: a sounding -/
def four : List Int → Option Snd
  | [a, b, d, e] => some ⟨a, b, d, e⟩
  | _ => none
theorem four_some {M : List Int} {s : Snd} (h : four M = some s) : M = [s.x, s.y, s.d, s.e] := by
  unfold four at h
  split at h
  · injection h with h; subst h; rfl
  · cases h
theorem four_len {M : List Int} (h : M.length = 4) : ∃ s, four M = some s := by
  match M, h with
  | [a, b, d, e], _ => exact ⟨⟨a, b, d, e⟩, rfl⟩
theorem four_none {M : List Int} (h : M.length ≠ 4) : four M = none := by
  unfold four
  split
  · simp at h
  · rfl
/-- a word of four numbers -/
def wF (f : List UInt8 → Option Int) (z : List UInt8) : Option Snd := (rdL f (spl 32 z)).bind four
theorem wF_mono {f g : List UInt8 → Option Int} {p : Int → Prop} (hfg : ∀ z a, f z = some a → p a → g z = some a) {z : List UInt8} {s : Snd} (h : wF f z = some s) (hp : p s.x ∧ p s.y ∧ p s.d ∧ p s.e) : wF g z = some s := by
  unfold wF at h ⊢
  cases hr : rdL f (spl 32 z) with
  | none => rw [hr] at h; cases h
  | some M =>
    rw [hr] at h
    have hM := four_some h
    have hg := rdL_mono (g := g) (p := p) (spl 32 z) M (fun z _ a => hfg z a) hr (by
      intro a ha
      rw [hM] at ha
      simp at ha
      rcases ha with rfl | rfl | rfl | rfl
      · exact hp.1
      · exact hp.2.1
      · exact hp.2.2.1
      · exact hp.2.2.2)
    rw [hg]
    exact h
/-- a text of soundings -/
def rsF (w : List UInt8 → Option Snd) (l : List UInt8) : Option (List Snd) := if l = [] then some [] else (rdL w (spl 59 l)).bind fun xs => if sndsB xs then some xs else none
theorem rs_nil (w : List UInt8 → Option Snd) : rsF w [] = some [] := rfl
theorem rs_none {w : List UInt8 → Option Snd} {l : List UInt8} (h : l ≠ []) (hr : rdL w (spl 59 l) = none) : rsF w l = none := by unfold rsF; rw [if_neg h, hr]; rfl
theorem rs_bad {w : List UInt8 → Option Snd} {l : List UInt8} {xs : List Snd} (h : l ≠ []) (hr : rdL w (spl 59 l) = some xs) (hb : ¬ sndsB xs = true) : rsF w l = none := by
  unfold rsF; rw [if_neg h, hr]; show (if sndsB xs = true then some xs else none) = none; rw [if_neg hb]
theorem rs_ok {w : List UInt8 → Option Snd} {l : List UInt8} {xs : List Snd} (h : l ≠ []) (hr : rdL w (spl 59 l) = some xs) (hb : sndsB xs = true) : rsF w l = some xs := by
  unfold rsF; rw [if_neg h, hr]; show (if sndsB xs = true then some xs else none) = some xs; rw [if_pos hb]
theorem snds_four {xs : List Snd} (h : sndsB xs = true) : ∀ s ∈ xs, sndP s = true := by
  unfold sndsB at h
  rw [Bool.and_eq_true] at h
  exact List.all_eq_true.1 h.1
theorem rs_eq (l : List UInt8) : rsF (wF rdZ) l = rsF (wF rdS) l := by
  by_cases hl : l = []
  · subst hl; rfl
  · cases hS : rdL (wF rdS) (spl 59 l) with
    | some xs =>
      have hZ := rdL_mono (g := wF rdZ) (p := fun _ => True) (spl 59 l) xs (fun z _ s hz _ => wF_mono (p := fun _ => True) (fun z a h _ => rdZ_of_S h) hz ⟨trivial, trivial, trivial, trivial⟩) hS (fun _ _ => trivial)
      unfold rsF
      rw [hS, hZ]
    | none =>
      rw [rs_none hl hS]
      cases hZ : rdL (wF rdZ) (spl 59 l) with
      | none => exact rs_none hl hZ
      | some xs =>
        refine rs_bad hl hZ fun hb => ?_
        have hS' := rdL_mono (g := wF rdS) (p := fun s => sndP s = true) (spl 59 l) xs (fun z _ s hz hp => wF_mono (p := fun v => -1000000000000 < v ∧ v < 1000000000000) (fun z a h hp => rdS_of_Z h hp.1 hp.2) hz (by
          unfold sndP sndB inB at hp
          simp only [Bool.and_eq_true, decide_eq_true_eq] at hp
          omega)) hZ (snds_four hb)
        rw [hS] at hS'
        cases hS'
@[irreducible] def rsR (l : List UInt8) : List Snd := (rsF (wF rdS) l).getD []
@[irreducible] def rsK (l : List UInt8) : Bool := (rsF (wF rdS) l).isSome
theorem rs_no {l : List UInt8} (h : rsF (wF rdS) l = none) : rsR l = [] ∧ rsK l = false := by unfold rsR rsK; rw [h]; exact ⟨rfl, rfl⟩
theorem rs_yes {l : List UInt8} {xs : List Snd} (h : rsF (wF rdS) l = some xs) : rsR l = xs ∧ rsK l = true := by unfold rsR rsK; rw [h]; exact ⟨rfl, rfl⟩
theorem rs_len (l : List UInt8) : (rsR l).length ≤ 200 := by
  cases h : rsF (wF rdS) l with
  | none => rw [(rs_no h).1]; simp
  | some xs =>
    rw [(rs_yes h).1]
    by_cases hl : l = []
    · subst hl; rw [rs_nil] at h; injection h with h; subst h; simp
    · unfold rsF at h
      rw [if_neg hl] at h
      cases hr : rdL (wF rdS) (spl 59 l) with
      | none => rw [hr] at h; cases h
      | some ys =>
        rw [hr] at h
        simp only [Option.bind_some] at h
        split at h
        · rename_i hb
          injection h with h
          subst h
          unfold sndsB at hb
          rw [Bool.and_eq_true] at hb
          exact of_decide_eq_true hb.2
        · cases h
/-- the cells of a sounding -/
def sn4 (s : Snd) : List Value := [.int .i64 s.x, .int .i64 s.y, .int .i64 s.d, .int .i64 s.e]
theorem infoSnd4 : (Tryd.prog.info? 73).map (fun i => (i.zero, i.size, i.bytes)) = some (some (.agg #[.int .i64 0, .int .i64 0, .int .i64 0, .int .i64 0]), 4, 32) := by kernel_rfl
theorem ResK.snds {w : World} {lo hi c : Nat} {A : Option Addr} {xs : List Snd} (h : ResK w lo hi A c 4 (xs.map sn4)) : ResS w lo hi A c xs := by
  refine ⟨by have := h.1; rw [List.length_map] at this; exact this, h.2.1, ?_⟩
  rcases h.2.2 with e | ⟨b, off, e, h1, h2, h3, hf, hc⟩
  · left
    cases xs with
    | nil => rfl
    | cons x r => simp at e
  · refine .inr ⟨b, off, e, h1, h2, h3, hf, fun i s hs => ?_⟩
    have g := fun j u hu => hc i (sn4 s) j u (by rw [List.getElem?_map, hs]; rfl) hu
    exact ⟨by simpa using g 0 _ rfl, g 1 _ rfl, g 2 _ rfl, g 3 _ rfl⟩
theorem NumsR.none_ {e : Ending} {w' : World} {ok : List Int → Bool} (h : NumsR e w' none ok) : e = .returned (.tuple #[.slice none 0 0, .bool false]) := h
theorem NumsR.some_ {e : Ending} {w' : World} {M : List Int} {ok : List Int → Bool} (h : NumsR e w' (some M) ok) : ∃ A' c', e = .returned (.tuple #[.slice A' M.length c', .bool (ok M)]) ∧ IntsAt w' A' c' M := h
theorem IntsAt.four_ {w : World} {A : Option Addr} {c : Nat} {s : Snd} (h : IntsAt w A c [s.x, s.y, s.d, s.e]) : ∃ b off, A = some ⟨b, off, none⟩ ∧ b < w.heap.size ∧ w.cell? ⟨b, off, none⟩ = some (.int .i64 s.x) ∧ w.cell? ⟨b, off + 1, none⟩ = some (.int .i64 s.y) ∧ w.cell? ⟨b, off + 2, none⟩ = some (.int .i64 s.d) ∧ w.cell? ⟨b, off + 3, none⟩ = some (.int .i64 s.e) := by
  rcases h.2.2 with e | ⟨b, off, rfl, hb, hc⟩
  · cases e
  · exact ⟨b, off, rfl, hb, hc 0 _ rfl, hc 1 _ rfl, hc 2 _ rfl, hc 3 _ rfl⟩
theorem StrsAt.grown {w w1 : World} {g off c : Nat} {row : Option Nat} {L : List (List UInt8)} (h : StrsAt w (some ⟨g, off, none⟩) c L) (hg : w.grownBy w1 row) (hr : row ≠ some g) : StrsAt w1 (some ⟨g, off, none⟩) c L := by
  obtain ⟨h1, h2, g', off', e, hlt, hc⟩ := h
  simp only [Option.some.injEq, Addr.mk.injEq, and_true] at e
  obtain ⟨rfl, rfl⟩ := e
  exact ⟨h1, h2, g, off, rfl, Nat.lt_of_lt_of_le hlt hg.size, fun j z hz => (World.cell?_of_block (w := w) (hg.block g hlt (fun e => hr e.symm))).trans (hc j z hz)⟩
theorem StrsAt.cell_ {w : World} {g off c k : Nat} {z : List UInt8} {L : List (List UInt8)} (h : StrsAt w (some ⟨g, off, none⟩) c L) (hz : L[k]? = some z) : w.cell? ⟨g, off + k, none⟩ = some (strL z) := by
  obtain ⟨h1, h2, g', off', e, hlt, hc⟩ := h
  simp only [Option.some.injEq, Addr.mk.injEq, and_true] at e
  obtain ⟨rfl, rfl⟩ := e
  exact hc k z hz
theorem StrsAt.lt_ {w : World} {g off c : Nat} {L : List (List UInt8)} (h : StrsAt w (some ⟨g, off, none⟩) c L) : g < w.heap.size := by
  obtain ⟨h1, h2, g', off', e, hlt, hc⟩ := h
  simp only [Option.some.injEq, Addr.mk.injEq, and_true] at e
  obtain ⟨rfl, rfl⟩ := e
  exact hlt
/-- append(out, x), an element of several cells, as a step of a region that draws its order -/
theorem stepG {P : Program} {W : World} {ops : Array Oper} {o : Oper} {a : Act} {K : Act → World → Prop} {Q : Exit → Act → World → Prop} {E : Prop} (hgd : o.guard = none) (s x : Operand) (t : TypeId)
    (ho : o.op = .call { callee := .builtin .append, args := #[s, x], argTypes := #[t, t] })
    (base : Nat) (e : TypeId) (z : Value) (size bytes : Nat) (ht : P.underlying t = some (.slice e)) (hi : (P.info? e).map (fun i => (i.zero, i.size, i.bytes)) = some (some z, size, bytes))
    (hzs : z.cells.size = size) (hsz : 0 < size) (us : List Value) (hus : us.length = size) (hone : ∀ u ∈ us, u.oneCell' = true)
    (v : Value) (n : Nat) (xs : List Value) (hs : a.eval s = v) (b : Nat) (hx : a.eval x = .slice (some ⟨b, 0, none⟩) 1 1)
    (hown : W.ownsRow base e size v n xs) (hc : ∀ j u, us[j]? = some u → W.cell? ⟨b, j, none⟩ = some u)
    (h63 : n + 1 ≤ maxLen) (hbytes : (n + 1) * bytes ≤ 140737488355328) (hbase : base ≤ W.heap.size)
    (h : ∀ v' w', w'.ownsRow base e size v' (n + 1) (xs ++ us) → W.grownBy w' v.ownBlock → (v'.ownBlock = v.ownBlock ∨ v'.ownBlock = some W.heap.size) → K (a.put o.dst v') w') :
    if Region.wanted o (yielded ops a.tmps) = true then Oper.wp P o a W K Q else E := by
  have hw : Region.wanted o (yielded ops a.tmps) = true := by simp [Region.wanted, hgd]
  rw [if_pos hw]
  obtain ⟨i, hi1, hi2, hi3, hi4⟩ := info_parts hi
  obtain ⟨v', w', hr, h2, h3, -, h5⟩ := run_append_own_at (P := P) W base t o.type e i z size bytes ht hi1 hi2 hi3 hi4 hzs hsz v n xs hown ⟨b, 0, none⟩ 1 1 us (by omega) (fun j u hj => by
    have ea : (⟨b, 0, none⟩ : Addr).add j = ⟨b, j, none⟩ := by simp [Addr.add] <;> omega
    rw [ea]
    exact hc j u hj) hone h63 hbytes hbase
  unfold Oper.wp execOp
  simp only [ho, resolve, invoke, builtin, Sem.run_bind, Sem.run_pure, Result.andThen_ok, List.map_toArray, List.map_cons, List.map_nil, hs, hx, hr]
  exact h v' w' h2 h3 h5
end Go.Proofs.YtebdokpokbcgjaaDoor
