/- The map of squares: its keys, and what it holds. -/
import Derived.Test.YtbbnnahjghlnoaaTh0
import Derived.Maps.RangeWalk
import Derived.Maps.OwnSet
import Derived.DeepKeys4
namespace Go.Proofs.Ytbbnnahjghlnoaa
set_option linter.unusedSimpArgs false
set_option linter.unusedVariables false
open Go.RowKit Go.Maps

theorem laidOutP : laidOutB Try.prog = true := by kernel_rfl
theorem lawPt : Keyed Try.prog 73 :=
  Keyed.of_law (deep_law_laid laidOutP (m := 3) (by omega) (of_decide_eq_true (by kernel_rfl)) (by kernel_rfl) (by rw [Try.underlying73]))
/-- what a square reads as -/
def ptL (a b : Int) : Lit := .string (keyBytes [.int .i64 a, .int .i64 b])
theorem keyTypePt : Try.prog.keyType 73 = true := by kernel_rfl
theorem cellsPt : Try.prog.cellsOf 73 = 2 := by kernel_rfl
theorem cells64 : Try.prog.cellsOf 2 = 1 := by kernel_rfl
theorem keyPt {a b : Int} (ha : (Lit.int .i64 a).wf = true) (hb : (Lit.int .i64 b).wf = true) : keyOf Try.prog 73 (.agg #[.int .i64 a, .int .i64 b]) = some (ptL a b) := by
  obtain ⟨n, hn⟩ : ∃ n, Try.prog.types.size = n + 1 := ⟨Try.prog.types.size - 1, by have : 0 < Try.prog.types.size := of_decide_eq_true (by kernel_rfl); omega⟩
  have hf : (Value.agg #[.int .i64 a, .int .i64 b]).formed Try.prog 73 = true := by simp [Value.formed, Try.underlying73, cellsPt]
  unfold keyOf
  rw [Try.underlying73, hn]
  simp [keyTypePt, hf, Program.keyLits, Try.underlying73, Try.underlying2, Value.cells, cellsPt, cells64, ha, hb, ptL]

def keyC (c : Int × Int) : Lit := ptL c.1 c.2
def InC (c : Int × Int) : Prop := (0 ≤ c.1 ∧ c.1 ≤ 10000) ∧ (0 ≤ c.2 ∧ c.2 ≤ 10000)
theorem wf10 {a : Int} (h : 0 ≤ a ∧ a ≤ 10000) : (Lit.int .i64 a).wf = true := WalkArith.wf_i64 (by omega)
theorem keyC_of {c : Int × Int} (h : InC c) : keyOf Try.prog 73 (.agg #[.int .i64 c.1, .int .i64 c.2]) = some (keyC c) := keyPt (wf10 h.1) (wf10 h.2)
theorem keyC_inj {c c' : Int × Int} (h : InC c) (h' : InC c') (e : keyC c = keyC c') : c = c' := by
  have q := lawPt.inj (keyC_of h) (by rw [e]; exact keyC_of h')
  injection q with q
  simp at q
  exact Prod.ext q.1 q.2
theorem snd_in {xs : List Snd} {k : Nat} {x y d e : Int} (hv : sndsB xs = true) (h : xs[k]? = some ⟨x, y, d, e⟩) : 0 ≤ x ∧ x ≤ 10000 ∧ 0 ≤ y ∧ y ≤ 10000 := by
  have h1 : xs.all sndP = true := by simp [sndsB] at hv; simpa using hv.1
  have h2 := List.all_eq_true.1 h1 _ (List.mem_of_getElem? h)
  simp [sndP, sndB, inB] at h2
  omega
theorem quo_in {x r : Int} (hx : 0 ≤ x ∧ x ≤ 10000) (hr : 1 ≤ r) : 0 ≤ x.tdiv r ∧ x.tdiv r ≤ 10000 := by
  constructor
  · exact Int.tdiv_nonneg hx.1 (by omega)
  · have h := Int.tdiv_le_self r hx.1
    omega
theorem thQ_in {xs : List Snd} {r : Int} {k : Nat} (hv : sndsB xs = true) (hr : 1 ≤ r) (hk : k < xs.length) : InC (thQ xs r k) := by
  obtain ⟨s, hs⟩ : ∃ s, xs[k]? = some s := ⟨_, List.getElem?_eq_getElem hk⟩
  obtain ⟨x, y, d, e⟩ := s
  obtain ⟨a, b, c, d'⟩ := snd_in hv hs
  rw [thQ_of hs]
  exact ⟨quo_in ⟨a, b⟩ hr, quo_in ⟨c, d'⟩ hr⟩
theorem thM_in {xs : List Snd} {r : Int} {k m : Nat} {c : Int × Int} (hv : sndsB xs = true) (hr : 1 ≤ r) (hk : k ≤ xs.length) (h : thM xs r c k = some m) : InC c := by
  obtain ⟨a, b, -⟩ := thM_some h
  rw [← b]
  exact thQ_in hv hr (by omega)
/-- the map behind k soundings -/
structure MapOK (xs : List Snd) (r : Int) (k : Nat) (D : DataW Unit) : Prop where
  hit : ∀ kl, Maps.has D kl = true → ∃ (c : Int × Int) (m : Nat), thM xs r c k = some m ∧ kl = keyC c ∧ ∀ z, D.atKey kl z = .lit (.int .i64 (m : Int))
  all : ∀ c m, thM xs r c k = some m → Maps.has D (keyC c) = true
theorem MapOK.zero (xs : List Snd) (r : Int) : MapOK xs r 0 (.map []) := ⟨fun kl h => by simp [Maps.has] at h, fun c m h => by cases h⟩
section
variable {xs : List Snd} {r : Int} {k : Nat} {D : DataW Unit} {c : Int × Int}
theorem MapOK.yes (h : MapOK xs r k D) (hv : sndsB xs = true) (hr : 1 ≤ r) (hk : k ≤ xs.length) (hc : InC c) (hh : Maps.has D (keyC c) = true) : ∃ m : Nat, thM xs r c k = some m ∧ ∀ z, D.atKey (keyC c) z = .lit (.int .i64 (m : Int)) := by
  obtain ⟨c', m, h1, h2, h3⟩ := h.hit _ hh
  obtain rfl := keyC_inj hc (thM_in hv hr hk h1) h2
  exact ⟨m, h1, h3⟩
theorem MapOK.no (h : MapOK xs r k D) (hh : Maps.has D (keyC c) = false) : thM xs r c k = none := by
  cases e : thM xs r c k with
  | none => rfl
  | some m => rw [h.all c m e] at hh; cases hh
theorem MapOK.put (h : MapOK xs r k D) (hD : IsMap D) (hv : sndsB xs = true) (hr : 1 ≤ r) (hk : k < xs.length) (hq : thQ xs r k = c) (hw : thM xs r c (k + 1) = some k) : MapOK xs r (k + 1) (D.put (keyC c) (.lit (.int .i64 (k : Int)))) := by
  have hic : InC c := by rw [← hq]; exact thQ_in hv hr hk
  have hik : WideAt.IsKeyLit (keyC c) := lawPt.key (keyC_of hic)
  constructor
  · intro kl hkl
    by_cases e : kl = keyC c
    · subst e
      exact ⟨c, k, hw, rfl, fun z => atKey_put_same hD hik _ z⟩
    · rw [has_put_other e] at hkl
      obtain ⟨c', m, h1, h2, h3⟩ := h.hit kl hkl
      have hne : c' ≠ c := fun e' => e (by rw [h2, e'])
      exact ⟨c', m, by rw [thM_other (by rw [hq]; exact fun q => hne q.symm)]; exact h1, h2, fun z => (atKey_put_other e _ z).trans (h3 z)⟩
  · intro c' m hm
    by_cases e : c' = c
    · subst e
      exact has_put_same hD hik _
    · have h1 : thM xs r c' k = some m := by rw [thM_other (by rw [hq]; exact fun q => e q.symm)] at hm; exact hm
      rw [has_put_other (fun q => e (keyC_inj (thM_in hv hr (by omega) h1) hic q))]
      exact h.all c' m h1
theorem MapOK.stay (h : MapOK xs r k D) (hq : thQ xs r k = c) (hw : thM xs r c (k + 1) = thM xs r c k) : MapOK xs r (k + 1) D := by
  have e : ∀ c', thM xs r c' (k + 1) = thM xs r c' k := fun c' => by
    by_cases q : thQ xs r k = c'
    · rw [← q, hq]; exact hw
    · exact thM_other q
  exact ⟨fun kl hkl => by obtain ⟨c', m, h1, h2⟩ := h.hit kl hkl; exact ⟨c', m, by rw [e]; exact h1, h2⟩, fun c' m hm => h.all c' m (by rw [← e]; exact hm)⟩
/-- what was collected -/
structure OutOK (D : DataW Unit) (left : Lit → Bool) (out : List Int) : Prop where
  nd : out.Nodup
  mem : ∀ m : Int, m ∈ out ↔ ∃ kl, Maps.has D kl = true ∧ left kl = false ∧ ∀ z, D.atKey kl z = .lit (.int .i64 m)
  sub : ∀ kl, left kl = true → Maps.has D kl = true
theorem OutOK.start (D : DataW Unit) : OutOK D (Maps.has D) [] :=
  ⟨List.nodup_nil, fun m => ⟨fun h => by simp at h, fun ⟨kl, a, b, _⟩ => by rw [a] at b; cases b⟩, fun _ h => h⟩
theorem lit_inj {a b : Int} (h : (DataW.lit (.int .i64 a) : DataW Unit) = .lit (.int .i64 b)) : a = b := by
  injection h with h; injection h with _ h
theorem same_iff {c : Int × Int} {kl : Lit} : kl.sameKey (keyC c) = true ↔ kl = keyC c := by
  constructor
  · intro h
    by_cases e : kl = keyC c
    · exact e
    · rw [sameKey_ne e] at h; cases h
  · intro h; subst h; simp [keyC, ptL, Lit.sameKey]
theorem OutOK.step {left : Lit → Bool} {out : List Int} {kl : Lit} {v : Int} (h : OutOK D left out) (M : MapOK xs r k D) (hlk : left kl = true) (hat : ∀ z, D.atKey kl z = .lit (.int .i64 v)) : OutOK D (fun z => left z && !z.sameKey kl) (out ++ [v]) := by
  have hhk := h.sub kl hlk
  obtain ⟨c, m, h1, h2, h3⟩ := M.hit kl hhk
  have hmv : (m : Int) = v := lit_inj ((h3 .nil).symm.trans (hat .nil))
  refine ⟨?_, fun x => ?_, fun z hz => h.sub z (by simp at hz; exact hz.1)⟩
  · rw [List.nodup_append]
    refine ⟨h.nd, by simp, fun a ha b hb => ?_⟩
    simp at hb
    subst hb
    intro e
    subst e
    obtain ⟨kl', a1, a2, a3⟩ := (h.mem a).1 ha
    obtain ⟨c', m', b1, b2, b3⟩ := M.hit kl' a1
    have hm' : (m' : Int) = a := lit_inj ((b3 .nil).symm.trans (a3 .nil))
    have hmm : m' = m := by omega
    subst hmm
    have e1 := (thM_some h1).2.1
    have e2 := (thM_some b1).2.1
    have : kl' = kl := by rw [b2, h2, ← e1, ← e2]
    subst this
    rw [a2] at hlk
    cases hlk
  · rw [List.mem_append, h.mem]
    constructor
    · rintro (⟨kl', a1, a2, a3⟩ | hx)
      · exact ⟨kl', a1, by simp [a2], a3⟩
      · simp at hx
        subst hx
        exact ⟨kl, hhk, by rw [h2]; simp [same_iff.2 rfl], hat⟩
    · rintro ⟨kl', a1, a2, a3⟩
      cases hl : left kl' with
      | false => exact .inl ⟨kl', a1, hl, a3⟩
      | true =>
        rw [hl] at a2
        simp only [Bool.true_and, Bool.not_eq_false'] at a2
        rw [h2, same_iff] at a2
        rw [← h2] at a2
        subst a2
        exact .inr (by simp; exact lit_inj ((a3 .nil).symm.trans (hat .nil)))
theorem OutOK.done {left : Lit → Bool} {out : List Int} (h : OutOK D left out) (M : MapOK xs r k D) (hv : sndsB xs = true) (hr : 1 ≤ r) (hk : k ≤ xs.length) (hl : ∀ kl, left kl = false) : ∀ m : Int, m ∈ out ↔ ∃ (c : Int × Int) (i : Nat), thM xs r c k = some i ∧ m = (i : Int) := by
  intro m
  rw [h.mem]
  constructor
  · rintro ⟨kl, a, b, g⟩
    obtain ⟨c, i, h1, h2, h3⟩ := M.hit kl a
    exact ⟨c, i, h1, (lit_inj ((h3 .nil).symm.trans (g .nil))).symm⟩
  · rintro ⟨c, i, h1, h2⟩
    have hh := M.all c i h1
    obtain ⟨i', q1, q3⟩ := M.yes hv hr hk (thM_in hv hr hk h1) hh
    rw [h1] at q1
    injection q1 with q1
    exact ⟨keyC c, hh, hl _, fun z => by rw [q3 z, h2, q1]⟩
end
end Go.Proofs.Ytbbnnahjghlnoaa
