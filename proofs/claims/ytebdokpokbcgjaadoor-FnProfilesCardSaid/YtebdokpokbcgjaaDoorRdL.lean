/- Lists of numbers read, by the reference and by the program; texts cut by the library. -/
import Derived.Test.YtebdokpokbcgjaaDoorRdS
import Derived.Test.YtebdokpokbcgjaaDoorOwnK
namespace Go.Proofs.YtebdokpokbcgjaaDoor
set_option linter.unusedSimpArgs false
set_option linter.unusedVariables false
open Go.RowKit

theorem splitG_any (l : List UInt8) (b : UInt8) (w : World) (hl : l.length ≤ 2000000) (hr : RdW w) :
    Calls Tryd.prog 63 #[strL l, strL [b]] w fun e w' => (∃ g c', e = .returned (.slice (some ⟨g, 0, none⟩) (spl b l).length c') ∧ StrsAt w' (some ⟨g, 0, none⟩) c' (spl b l) ∧ w.heap.size ≤ g) ∧ Below w.heap.size w w' := by
  obtain ⟨m, hm⟩ := hr.ml
  have hsz : (⟨l.toArray⟩ : ByteArray).size = l.length := rfl
  have hs1 : (⟨[b].toArray⟩ : ByteArray).size = 1 := rfl
  refine (Tryd.strings_Split ⟨l.toArray⟩ ⟨[b].toArray⟩ m w (by rw [hsz]; omega) hm (by rw [hs1]; omega)).mono ?_
  rintro e w' ⟨rfl, rfl⟩
  have e1 : (Lib.splitB ⟨[b].toArray⟩ 0 (Lib.countB ⟨l.toArray⟩ ⟨[b].toArray⟩) ⟨l.toArray⟩).map (·.data.toList) = spl b l := (Lib.splitB_data _ _ _ _).trans (lib_split b l.length l (Nat.le_refl _))
  have e2 := Lib.splitB_all ⟨[b].toArray⟩ (by rw [hs1]; omega) 0 _ ⟨l.toArray⟩ rfl
  have e3 : (spl b l).length = Lib.countB ⟨l.toArray⟩ ⟨[b].toArray⟩ + 1 := by rw [← e1, List.length_map, e2]
  have e4 : (spl b l).length ≤ l.length + 1 := splB_size b l []
  refine ⟨⟨_, _, by rw [e3], ⟨by omega, by omega, w.heap.size, 0, rfl, by simp, fun j z hz => ?_⟩, Nat.le_refl _⟩, by go_grown⟩
  rw [← e1, List.getElem?_map] at hz
  rw [Nat.zero_add]
  refine (World.cell?_alloc_new (w := w) _ _ _).trans ?_
  rw [List.getElem?_toArray, List.getElem?_map]
  cases hq : (Lib.splitB ⟨[b].toArray⟩ 0 (Lib.countB ⟨l.toArray⟩ ⟨[b].toArray⟩) ⟨l.toArray⟩)[j]? with
  | none => rw [hq] at hz; cases hz
  | some B =>
    rw [hq] at hz
    simp only [Option.map_some, Option.some.injEq] at hz ⊢
    subst hz
    rfl
theorem split_any (l : List UInt8) (b : UInt8) (w : World) (hl : l.length ≤ 2000000) (hr : RdW w) :
    Calls Tryd.prog 63 #[strL l, strL [b]] w fun e w' => (∃ A' c', e = .returned (.slice A' (spl b l).length c') ∧ StrsAt w' A' c' (spl b l)) ∧ Below w.heap.size w w' :=
  (splitG_any l b w hl hr).mono fun e w' ⟨⟨g, c, h1, h2, _⟩, hb⟩ => ⟨⟨_, _, h1, h2⟩, hb⟩
theorem cut_any (l : List UInt8) (b : UInt8) (w : World) (hl : l.length ≤ 2000000) (hr : RdW w) :
    Calls Tryd.prog 64 #[strL l, strL [b]] w fun e w' => e = .returned (.tuple #[strL (Lib.cut l [b]).1, strL (Lib.cut l [b]).2.1, .bool (Lib.cut l [b]).2.2]) ∧ Below w.heap.size w w' := by
  obtain ⟨m, hm⟩ := hr.ml
  have hsz : (⟨l.toArray⟩ : ByteArray).size = l.length := rfl
  refine (Tryd.strings_Cut ⟨l.toArray⟩ ⟨[b].toArray⟩ m w (by rw [hsz]; omega) hm).mono ?_
  rintro e w' ⟨rfl, n, rfl⟩
  exact ⟨rfl, bdrewN (Below.refl _ _) _⟩

/-- the words read, each by f -/
def rdL {α : Type} (f : List UInt8 → Option α) : List (List UInt8) → Option (List α)
  | [] => some []
  | z :: r => (f z).bind fun a => (rdL f r).map (a :: ·)
theorem rdL_snoc {α : Type} {f : List UInt8 → Option α} {z : List UInt8} {a : α} (hz : f z = some a) : ∀ (L : List (List UInt8)) (M : List α), rdL f L = some M → rdL f (L ++ [z]) = some (M ++ [a]) := by
  intro L
  induction L with
  | nil => intro M h; injection h with h; subst h; simp [rdL, hz]
  | cons y r ih =>
    intro M h
    rw [rdL] at h
    rw [List.cons_append, rdL]
    cases hy : f y with
    | none => rw [hy] at h; cases h
    | some c =>
      rw [hy] at h
      cases hr : rdL f r with
      | none => rw [hr] at h; cases h
      | some M' =>
        rw [hr] at h
        simp only [Option.bind_some, Option.map_some, Option.some.injEq] at h ⊢
        subst h
        rw [ih M' hr]
        rfl
theorem rdL_none {α : Type} {f : List UInt8 → Option α} {z : List UInt8} (hz : f z = none) : ∀ (L : List (List UInt8)), z ∈ L → rdL f L = none := by
  intro L
  induction L with
  | nil => intro h; cases h
  | cons y r ih =>
    intro h
    rw [rdL]
    rcases List.mem_cons.1 h with rfl | h
    · rw [hz]; rfl
    · rw [ih h]; cases f y <;> rfl
theorem rdL_len {α : Type} {f : List UInt8 → Option α} : ∀ (L : List (List UInt8)) (M : List α), rdL f L = some M → M.length = L.length := by
  intro L
  induction L with
  | nil => intro M h; injection h with h; subst h; rfl
  | cons y r ih =>
    intro M h
    rw [rdL] at h
    cases hy : f y with
    | none => rw [hy] at h; cases h
    | some c =>
      rw [hy] at h
      cases hr : rdL f r with
      | none => rw [hr] at h; cases h
      | some M' =>
        rw [hr] at h
        simp only [Option.bind_some, Option.map_some, Option.some.injEq] at h
        subst h
        rw [List.length_cons, List.length_cons, ih M' hr]
theorem rdL_next {α : Type} {f : List UInt8 → Option α} {L : List (List UInt8)} {M : List α} {k : Nat} {z : List UInt8} {a : α} (h : rdL f (L.take k) = some M) (hz : L[k]? = some z) (ha : f z = some a) : rdL f (L.take (k + 1)) = some (M ++ [a]) := by
  rw [List.take_add_one, hz]
  exact rdL_snoc ha _ _ h
/-- what one reader reads and p holds of, the other reads too -/
theorem rdL_mono {α : Type} {f g : List UInt8 → Option α} {p : α → Prop} : ∀ (L : List (List UInt8)) (M : List α), (∀ z ∈ L, ∀ a, f z = some a → p a → g z = some a) → rdL f L = some M → (∀ a ∈ M, p a) → rdL g L = some M := by
  intro L
  induction L with
  | nil => intro M _ h _; exact h
  | cons y r ih =>
    intro M hg h hp
    rw [rdL] at h ⊢
    cases hy : f y with
    | none => rw [hy] at h; cases h
    | some c =>
      rw [hy] at h
      cases hr : rdL f r with
      | none => rw [hr] at h; cases h
      | some M' =>
        rw [hr] at h
        simp only [Option.bind_some, Option.map_some, Option.some.injEq] at h
        subst h
        rw [hg y (by simp) c hy (hp c (by simp)), ih M' (fun z hz => hg z (by simp [hz])) hr (fun a ha => hp a (by simp [ha]))]
        rfl
theorem StrsAt.at_ {w : World} {A : Option Addr} {c k : Nat} {L : List (List UInt8)} (h : StrsAt w A c L) (hk : k < L.length) : ∃ g off z, A = some ⟨g, off, none⟩ ∧ g < w.heap.size ∧ L[k]? = some z ∧ w.cell? ⟨g, off + k, none⟩ = some (strL z) := by
  obtain ⟨h1, h2, g, off, rfl, hg, hc⟩ := h
  exact ⟨g, off, L[k], rfl, hg, List.getElem?_eq_getElem hk, hc k _ (List.getElem?_eq_getElem hk)⟩
/-- the numbers that a call has read: a row of its own -/
def NumsR (e : Ending) (w' : World) (M : Option (List Int)) (ok : List Int → Bool) : Prop :=
  match M with
  | some M => ∃ A' c', e = .returned (.tuple #[.slice A' M.length c', .bool (ok M)]) ∧ IntsAt w' A' c' M
  | none => e = .returned (.tuple #[.slice none 0 0, .bool false])

set_option maxRecDepth 20000 in
set_option maxHeartbeats 4000000 in
theorem l01Numbers_any (A : Option Addr) (c : Nat) (L : List (List UInt8)) (w : World) (hs : StrsAt w A c L) (hl : L.length ≤ 2000000) (hw : ∀ z ∈ L, z.length ≤ 2000000) :
    Calls Tryd.prog 62 #[.slice A L.length c] w fun e w' => NumsR e w' (rdL rdS L) (fun _ => true) ∧ Below w.heap.size w w' := by
  have HS := Lib.hid hs; have HW := Lib.hid hw; clear hs hw
  go_enter Tryd.func62, Tryd.ntmps62
  go_wp2
  go_loopw [4, 5] (fun o i wr => Below w.heap.size w wr ∧ ∃ (k : Nat) (M : List Int), k ≤ L.length ∧ M.length = k ∧ i = .int .i64 k ∧ OwnI wr w.heap.size o M ∧ rdL rdS (L.take k) = some M) (fun _ i _ => L.length - (intOf i).toNat)
  case atStart => exact ⟨by go_grown, 0, [], by omega, rfl, rfl, OwnI.zero (Nat.le_refl _), rfl⟩
  case round =>
    obtain ⟨Br, k, M, hk, hM, rfl, hown, hrd⟩ := hrel
    obtain ⟨A', c', rfl, hc', ho⟩ := id hown
    rw [hM] at ho ⊢
    have sr := Br.size
    have HBr := Lib.hid Br; have HO := Lib.hid ho; have HOI := Lib.hid hown; have HR := Lib.hid hrd; have HM := Lib.hid hM; clear Br hown hrd hM ho
    have HXr := Lib.hid (HS.out.below HBr.out (Nat.le_refl _))
    by_cases hlt : k < L.length
    · obtain ⟨g, off, z, rfl, hg, hz, cz⟩ := HXr.out.at_ hlt
      have hzl := HW.out z (List.mem_of_getElem? hz)
      have HZ := Lib.hid hz; clear hz
      have kk0 : (0 : Int) ≤ k := by omega
      have kk1 : (k : Int) < L.length := by omega
      have CS := Lib.hid (fun W => l01Signed_any z W hzl)
      cases hr : rdS z with
      | none =>
        have HN := Lib.hid (rdL_none hr L (List.mem_of_getElem? HZ.out))
        rw [hr] at CS
        clear hr
        go_wp2_with (go_at_call 95; refine (CS.out _).mono ?_; rintro e_ w1 ⟨⟨n, rfl, hn⟩, hb1⟩)
        go_ret2
        exact ⟨by rw [HN.out]; rfl, HBr.out.trans (hb1.mono (by omega))⟩
      | some v =>
        have HN := Lib.hid (rdL_next HR.out HZ.out hr)
        rw [hr] at CS
        clear hr
        go_wp2_with (first
          | (go_at_call 95; refine (CS.out _).mono ?_; rintro e_ w1 ⟨⟨n, rfl, hn⟩, hb1⟩; obtain rfl := hn v rfl; have hz1 := hb1.size; have HO1 := Lib.hid (owns_below HO.out hb1 (Nat.le_refl _)); clear hn)
          | (at_builtin; refine app1 rfl _ _ 22 rfl w.heap.size 2 (.int .i64 0) 8 Tryd.underlying22 infoInt2 rfl (.int .i64 n) rfl _ _ _ rfl _ rfl (owns_below (B := w1.heap.size) HO1.out ?_ (Nat.le_refl _)) ?_ ?_ ?_ ?_ ?_; (focus (first | (go_grown; done) | (refine bdrewN ?_ _; go_grown; done) | exact Below.alloc (bdrewN (Below.refl _ _) _) (Nat.le_refl _) _)); (focus (first | (simp; done) | exact (World.cell?_alloc_new (w := _) _ _ _).trans rfl)); (focus (unfold maxLen; omega)); (focus omega); (focus (first | omega | (simp; omega))); intro v2 w2 hown2 hb2))
        go_roundw
        all_goals first | exact ⟨Below.trans (HBr.out.trans (Below.trans (hb1.mono (show w.heap.size ≤ wr.heap.size by omega)) (show Below w.heap.size w1 _ from (by first | exact Below.refl _ _ | (go_grown; done) | exact bdrewN (Below.refl _ _) _)))) hb2, k + 1, M ++ [n], by omega, by rw [List.length_append, HM.out]; rfl, by go_num, OwnI.next rfl (by rw [HM.out]; exact hown2), HN.out⟩ | (simp [intOf]; omega)
    · obtain rfl : k = L.length := by omega
      have e := HR.out
      rw [List.take_length] at e
      go_wp2
      go_ret2
      refine ⟨?_, HBr.out⟩
      rw [e]
      exact ⟨A', c', by rw [HM.out]; rfl, HOI.out.res.at⟩
end Go.Proofs.YtebdokpokbcgjaaDoor
