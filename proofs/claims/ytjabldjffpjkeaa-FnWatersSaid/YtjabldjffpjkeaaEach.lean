/- Regions that draw their order: one proof for each operation serves every order: what holds of the world is kept by each, and of each value that has been yielded something is known. -/
import Derived.Orders
import Derived.RegionTactic
namespace Go.Proofs.Ytjabldjffpjkeaa
set_option linter.unusedSimpArgs false
set_option linter.unusedVariables false

def upd (t : Nat → Value) (d : Nat) (v : Value) : Nat → Value := fun e => if e = d then v else t e
theorem upd_self (t : Nat → Value) (d : Nat) (v : Value) : upd t d v d = v := by simp [upd]
theorem upd_other (t : Nat → Value) {d e : Nat} (v : Value) (h : e ≠ d) : upd t d v e = t e := by simp [upd, h]

/-- the frame in which operation k + n has yielded t (k + n) -/
def putsFrom (a : Act) (t : Nat → Value) : List Oper → Nat → Act
  | [], _ => a
  | o :: os, k => (putsFrom a t os (k + 1)).put o.dst (t k)

theorem putsFrom_upd_lt (a : Act) (t : Nat → Value) (v : Value) {i : Nat} : ∀ (os : List Oper) (k : Nat), i < k → putsFrom a (upd t i v) os k = putsFrom a t os k
  | [], _, _ => rfl
  | o :: os, k, h => by
    simp only [putsFrom]
    rw [putsFrom_upd_lt a t v os (k + 1) (by omega), upd_other t v (by omega)]

theorem put_comm {d1 d2 : Option Tmp} (a : Act) (v1 v2 : Value) (h : ∀ x, d1 = some x → d2 ≠ some x) : (a.put d1 v1).put d2 v2 = (a.put d2 v2).put d1 v1 := by
  cases d1 with
  | none => rfl
  | some x =>
    cases d2 with
    | none => rfl
    | some y =>
      have hxy : x ≠ y := fun e => h x rfl (by rw [e])
      simp only [Act.put]
      congr 1
      exact Array.setIfInBounds_comm _ _ hxy
theorem put_put (a : Act) (d : Option Tmp) (v1 v2 : Value) : (a.put d v1).put d v2 = a.put d v2 := by
  cases d with
  | none => rfl
  | some x => simp [Act.put]

/-- the places of a region's operations are distinct -/
def distinctB : List Oper → Bool
  | [] => true
  | o :: os => os.all (fun o' => match o.dst, o'.dst with | some x, some y => x != y | _, _ => true) && distinctB os

theorem putsFrom_put (a : Act) (t : Nat → Value) (v : Value) {i : Nat} {o : Oper} : ∀ (os : List Oper) (k : Nat), distinctB os = true → k ≤ i → os[i - k]? = some o →
    (putsFrom a t os k).put o.dst v = putsFrom a (upd t i v) os k
  | [], _, _, _, h => by simp at h
  | o' :: os, k, hd, hk, h => by
    simp only [distinctB, Bool.and_eq_true, List.all_eq_true] at hd
    by_cases he : i = k
    · subst he
      simp at h
      subst h
      simp only [putsFrom, upd_self]
      rw [put_put, putsFrom_upd_lt a t v os (i + 1) (by omega)]
    · have h1 : os[i - (k + 1)]? = some o := by
        have e : i - k = (i - (k + 1)) + 1 := by omega
        rw [e] at h
        simpa using h
      have h2 := hd.1 o (List.mem_of_getElem? h1)
      simp only [putsFrom]
      rw [upd_other t v (by omega), put_comm, putsFrom_put a t v os (k + 1) hd.2 (by omega) h1]
      intro x hx hy
      rw [hx, hy] at h2
      simp at h2

theorem putsFrom_old (a : Act) (t : Nat → Value) : ∀ (os : List Oper) (k : Nat), (∀ (j : Nat) (o : Oper) (d : Tmp), os[j]? = some o → o.dst = some d → t (k + j) = a.tmps.getD d undef) → putsFrom a t os k = a
  | [], _, _ => rfl
  | o :: os, k, h => by
    simp only [putsFrom]
    rw [putsFrom_old a t os (k + 1) (fun j o' d ho hd => by rw [show k + 1 + j = k + (j + 1) by omega]; exact h (j + 1) o' d (by simpa using ho) hd)]
    cases hd : o.dst with
    | none => rfl
    | some d =>
      have := h 0 o d (by simp) hd
      simp only [Act.put]
      cases a with
      | mk tmps defers =>
        congr 1
        simp only [Nat.add_zero] at this
        rw [this]
        apply Array.ext
        · simp
        · intro n h1 h2
          by_cases hn : d = n
          · subst hn
            simp [Array.getD, h2]
          · rw [Array.getElem_setIfInBounds_ne h2 hn]

section
variable {P : Program} {ops : Array Oper} {Q : Exit → Act → World → Prop} {md : Region.Mode}

/-- what is asked of the operations, each once -/
def EachOps (P : Program) (md : Region.Mode) (ops : Array Oper) (Q : Exit → Act → World → Prop) (B : (Nat → Value) → Act) (t0 : Nat → Value) (Inv : World → Prop) (R : World → World → Prop) (T : Nat → Value → World → Prop) : List Oper → Nat → Prop
  | [], _ => True
  | o :: os, i => (∀ (t : Nat → Value) (w : World), Inv w → (∀ j, (o.after.any fun e => Region.binds md e && e.on == j) = true → T j (t j) w) →
      (∀ j o', ops[j]? = some o' → (o'.after.any fun e => Region.binds md e && e.on == i) = true → t j = t0 j) →
      ∀ K : Act → World → Prop, (∀ v w', Inv w' → R w w' → T i v w' → K ((B t).put o.dst v) w') →
      if Region.wanted o (yielded ops (B t).tmps) = true then Oper.wp P o (B t) w K Q else K ((B t).put o.dst undef) w) ∧ EachOps P md ops Q B t0 Inv R T os (i + 1)

theorem EachOps.nil {B : (Nat → Value) → Act} {t0 : Nat → Value} {Inv : World → Prop} {R : World → World → Prop} {T : Nat → Value → World → Prop} {i : Nat} : EachOps P md ops Q B t0 Inv R T [] i := trivial
theorem EachOps.cons {B : (Nat → Value) → Act} {t0 : Nat → Value} {Inv : World → Prop} {R : World → World → Prop} {T : Nat → Value → World → Prop} {i : Nat} {o : Oper} {os : List Oper}
    (h : ∀ (t : Nat → Value) (w : World), Inv w → (∀ j, (o.after.any fun e => Region.binds md e && e.on == j) = true → T j (t j) w) →
      (∀ j o', ops[j]? = some o' → (o'.after.any fun e => Region.binds md e && e.on == i) = true → t j = t0 j) →
      ∀ K : Act → World → Prop, (∀ v w', Inv w' → R w w' → T i v w' → K ((B t).put o.dst v) w') →
      if Region.wanted o (yielded ops (B t).tmps) = true then Oper.wp P o (B t) w K Q else K ((B t).put o.dst undef) w) (hs : EachOps P md ops Q B t0 Inv R T os (i + 1)) : EachOps P md ops Q B t0 Inv R T (o :: os) i := ⟨h, hs⟩

theorem EachOps.get {B : (Nat → Value) → Act} {t0 : Nat → Value} {Inv : World → Prop} {R : World → World → Prop} {T : Nat → Value → World → Prop} : ∀ (os : List Oper) (k : Nat), EachOps P md ops Q B t0 Inv R T os k → ∀ i o, os[i]? = some o →
    ∀ (t : Nat → Value) (w : World), Inv w → (∀ j, (o.after.any fun e => Region.binds md e && e.on == j) = true → T j (t j) w) →
      (∀ j o', ops[j]? = some o' → (o'.after.any fun e => Region.binds md e && e.on == k + i) = true → t j = t0 j) →
      ∀ K : Act → World → Prop, (∀ v w', Inv w' → R w w' → T (k + i) v w' → K ((B t).put o.dst v) w') →
      if Region.wanted o (yielded ops (B t).tmps) = true then Oper.wp P o (B t) w K Q else K ((B t).put o.dst undef) w
  | [], _, _, i, o, h => by simp at h
  | o' :: os, k, h, 0, o, ho => by
    simp at ho
    subst ho
    exact h.1
  | o' :: os, k, h, i + 1, o, ho => by
    have := EachOps.get os (k + 1) h.2 i o (by simpa using ho)
    rw [show k + 1 + i = k + (i + 1) by omega] at this
    exact this

/-- binding edges go back -/
def backB (md : Region.Mode) : List Oper → Nat → Bool
  | [], _ => true
  | o :: os, k => o.after.all (fun e => !Region.binds md e || decide (e.on < k)) && backB md os (k + 1)
theorem backB_get : ∀ (os : List Oper) (k : Nat), backB md os k = true → ∀ i o, os[i]? = some o → ∀ e ∈ o.after, Region.binds md e = true → e.on < k + i
  | [], _, _, i, o, ho => by simp at ho
  | o' :: os, k, h, 0, o, ho => fun e he hb => by
    simp only [backB, Bool.and_eq_true, Array.all_eq_true'] at h
    simp at ho
    subst ho
    have := h.1 e he
    simpa [hb] using this
  | o' :: os, k, h, i + 1, o, ho => fun e he hb => by
    simp only [backB, Bool.and_eq_true] at h
    have := backB_get os (k + 1) h.2 i o (by simpa using ho) e he hb
    omega

structure EachInv (md : Region.Mode) (ops : Array Oper) (B : (Nat → Value) → Act) (t0 : Nat → Value) (Inv : World → Prop) (T : Nat → Value → World → Prop) (listed : Array Bool) (t : Nat → Value) (a : Act) (w : World) : Prop where
  size : listed.size = ops.size
  inv : Inv w
  act : a = B t
  known : ∀ j, listed.getD j false = true → T j (t j) w
  old : ∀ j, listed.getD j true = false → t j = t0 j
  closed : ∀ j o, ops[j]? = some o → listed.getD j false = true → ∀ e ∈ o.after, Region.binds md e = true → listed.getD e.on false = true

theorem getD_set_bool (l : Array Bool) (i j : Nat) (d : Bool) : (l.setIfInBounds i true).getD j d = if i = j ∧ j < l.size then true else l.getD j d := by
  by_cases hj : j < l.size
  · by_cases hi : i = j
    · subst hi
      simp [Array.getD, hj]
    · simp [Array.getD, hj, hi, Array.getElem_setIfInBounds]
  · simp [Array.getD, hj]
theorem getD_tf {l : Array Bool} {j : Nat} (h : l.getD j true = false) : j < l.size ∧ l.getD j false = false := by
  by_cases hj : j < l.size
  · simp [Array.getD, hj] at h ⊢
    exact h
  · simp [Array.getD, hj] at h
theorem getD_lt {l : Array Bool} {j : Nat} (h : l.getD j false = true) : j < l.size ∧ l.getD j true = true := by
  by_cases hj : j < l.size
  · simp [Array.getD, hj] at h ⊢
    exact h
  · simp [Array.getD, hj] at h

/-- how many are still to come -/
def toCome (l : Array Bool) : Nat := (l.toList.filter (fun b => !b)).length
theorem toCome_set {l : Array Bool} {i : Nat} (h : l.getD i true = false) : toCome (l.setIfInBounds i true) + 1 = toCome l := by
  obtain ⟨l⟩ := l
  unfold toCome
  simp only [List.setIfInBounds_toArray]
  have key : ∀ (l : List Bool) (i : Nat), (List.toArray l).getD i true = false → ((l.set i true).filter (fun b => !b)).length + 1 = (l.filter (fun b => !b)).length := by
    intro l
    induction l with
    | nil => intro i h; simp [Array.getD] at h
    | cons x xs ih =>
      intro i h
      cases i with
      | zero =>
        simp [Array.getD] at h
        subst h
        simp
      | succ i =>
        have h' : (List.toArray xs).getD i true = false := by
          by_cases hi : i < xs.length
          · simp [Array.getD, hi] at h ⊢; exact h
          · simp [Array.getD, hi] at h
        have := ih i h'
        cases x <;> simp [List.filter_cons] at this ⊢ <;> omega
  exact key l i h
theorem toCome_zero {l : Array Bool} (h : toCome l = 0) {j : Nat} (hj : j < l.size) : l.getD j false = true := by
  unfold toCome at h
  have h1 := List.eq_nil_of_length_eq_zero h
  rw [List.filter_eq_nil_iff] at h1
  have := h1 (l[j]) (by simp)
  simpa [Array.getD, hj] using this

theorem ready_mem {listed : Array Bool} {i : Nat} (h : i ∈ Region.ready md ops listed) : ∃ o, ops[i]? = some o ∧ listed.getD i true = false ∧ ∀ e ∈ o.after, Region.binds md e = true → listed.getD e.on false = true := by
  unfold Region.ready at h
  rw [List.mem_filter] at h
  obtain ⟨h1, h2⟩ := h
  rw [List.mem_range] at h1
  have ho : ops[i]? = some ops[i] := by simp [h1]
  refine ⟨_, ho, ?_, ?_⟩
  · simp only [Bool.and_eq_true, Bool.not_eq_true'] at h2
    exact h2.1
  · intro e he hb
    simp only [Bool.and_eq_true, ho, Option.map_some, Option.getD_some, Array.all_eq_true'] at h2
    have := h2.2 e he
    simpa [hb] using this

theorem all_listed {listed : Array Bool} (hs : listed.size = ops.size) (hb : backB md ops.toList 0 = true) (hr : Region.ready md ops listed = []) : ∀ j, j < ops.size → listed.getD j false = true := by
  intro j
  induction j using Nat.strongRecOn with
  | _ j ih =>
    intro hj
    by_cases h : listed.getD j false = true
    · exact h
    · have h' : listed.getD j true = false := by
        have : j < listed.size := by omega
        simp [Array.getD, this] at h ⊢
        exact h
      have ho : ops[j]? = some ops[j] := by simp [hj]
      have hm : j ∈ Region.ready md ops listed := by
        unfold Region.ready
        rw [List.mem_filter, List.mem_range]
        refine ⟨hj, ?_⟩
        simp only [h', ho, Option.map_some, Option.getD_some, Bool.not_false, Bool.true_and, Array.all_eq_true']
        intro e he
        by_cases hbe : Region.binds md e = true
        · have hlt := backB_get ops.toList 0 hb j ops[j] (by simp [hj]) e he hbe
          simp [hbe, ih e.on (by omega) (by omega)]
        · simp [hbe]
      rw [hr] at hm
      cases hm

theorem wpAny_each {B : (Nat → Value) → Act} {t0 : Nat → Value} {Inv : World → Prop} {R : World → World → Prop} {T : Nat → Value → World → Prop}
    (hB : ∀ t i o v, ops[i]? = some o → (B t).put o.dst v = B (upd t i v)) (hb : backB md ops.toList 0 = true)
    (hT : ∀ j v w w', R w w' → T j v w → T j v w')
    (hU : ∀ w, Inv w → R w w)
    (hE : EachOps P md ops Q B t0 Inv R T ops.toList 0)
    (hG : ops.toList.all (fun o => o.guard.isNone) = true)
    (hQ : ∀ t w, Inv w → (∀ j, j < ops.size → T j (t j) w) → Q .normal (B t) w) :
    ∀ (fuel : Nat) (listed : Array Bool) (t : Nat → Value) (a : Act) (w : World), toCome listed ≤ fuel → EachInv md ops B t0 Inv T listed t a w → wpAny P md ops Q fuel listed a w := by
  intro fuel
  induction fuel with
  | zero =>
    intro listed t a w hf hi
    have hl : ∀ j, j < ops.size → listed.getD j false = true := fun j hj => toCome_zero (by omega) (by rw [hi.size]; exact hj)
    refine ⟨?_, ?_⟩
    · cases hr : Region.ready md ops listed with
      | nil => rfl
      | cons x xs =>
        obtain ⟨o, ho, h1, -⟩ := ready_mem (md := md) (ops := ops) (listed := listed) (i := x) (by rw [hr]; simp)
        have := getD_tf h1
        rw [hl x (by rw [← hi.size]; exact this.1)] at this
        cases this.2
    · rw [hi.act]
      exact hQ t w hi.inv fun j hj => hi.known j (hl j hj)
  | succ fuel ih =>
    intro listed t a w hf hi
    refine ⟨fun hr => ?_, fun i him => ?_⟩
    · rw [hi.act]
      exact hQ t w hi.inv fun j hj => hi.known j (all_listed hi.size hb hr j hj)
    · obtain ⟨o, ho, h1, h2⟩ := ready_mem him
      have hop := EachOps.get ops.toList 0 hE i o (by simpa using ho) t w hi.inv
        (fun j hj => by
          obtain ⟨e, he, hbe⟩ := Array.any_eq_true'.1 hj
          simp only [Bool.and_eq_true, beq_iff_eq] at hbe
          exact hi.known j (hbe.2 ▸ h2 e he hbe.1))
        (fun j o' ho' hj => by
          obtain ⟨e, he, hbe⟩ := Array.any_eq_true'.1 hj
          simp only [Bool.and_eq_true, beq_iff_eq, Nat.zero_add] at hbe
          apply hi.old
          cases hl : listed.getD j true with
          | false => rfl
          | true =>
            exfalso
            have hjs : j < listed.size := by rw [hi.size]; exact (Array.getElem?_eq_some_iff.1 ho').1
            have hl' : listed.getD j false = true := by simp [Array.getD, hjs] at hl ⊢; exact hl
            have h3 := hi.closed j o' ho' hl' e he hbe.1
            rw [hbe.2] at h3
            have := (getD_tf h1).2
            rw [this] at h3
            cases h3)
        (wpAny P md ops Q fuel (listed.setIfInBounds i true))
        (fun v w' hI hR hv => by
          simp only [Nat.zero_add] at hv
          have hts := toCome_set h1
          refine ih _ (upd t i v) _ w' (by omega) ⟨by simp [hi.size], hI, hB t i o v ho, ?_, ?_, ?_⟩
          · intro j hj
            by_cases hji : j = i
            · subst hji
              rw [upd_self]
              exact hv
            · rw [upd_other t v hji]
              rw [getD_set_bool] at hj
              have hne : ¬ (i = j ∧ j < listed.size) := fun h => hji h.1.symm
              rw [if_neg hne] at hj
              exact hT j _ w w' hR (hi.known j hj)
          · intro j hj
            rw [getD_set_bool] at hj
            by_cases hji : i = j ∧ j < listed.size
            · rw [if_pos hji] at hj; cases hj
            · rw [if_neg hji] at hj
              have : j ≠ i := by
                intro e
                exact hji ⟨e.symm, (getD_tf hj).1⟩
              rw [upd_other t v this]
              exact hi.old j hj
          · intro j o' ho' hj e he hbe
            rw [getD_set_bool] at hj ⊢
            by_cases hc : i = e.on ∧ e.on < listed.size
            · rw [if_pos hc]
            · rw [if_neg hc]
              by_cases hji : i = j ∧ j < listed.size
              · have : o' = o := by
                  rw [← hji.1, ho] at ho'
                  exact (Option.some.inj ho').symm
                subst this
                exact h2 e he hbe
              · rw [if_neg hji] at hj
                exact hi.closed j o' ho' hj e he hbe)
      unfold wpOp
      rw [ho]
      rw [hi.act]
      have hg : o.guard = none := by
        rw [List.all_eq_true] at hG
        have := hG o (List.mem_of_getElem? (by simpa using ho))
        simpa using this
      have hw : Region.wanted o (yielded ops (B t).tmps) = true := by simp [Region.wanted, hg]
      rw [if_pos hw] at hop
      show if Region.wanted o (yielded ops (B t).tmps) = true then _ else _
      rw [if_pos hw]
      exact .inl hop

theorem toCome_replicate (n : Nat) : toCome (Array.replicate n false) ≤ n := by
  unfold toCome
  exact Nat.le_trans (List.length_filter_le _ _) (by simp)

/-- every order of a region of the language's own sort -/
theorem wp_region_each {id : Nat} {a : Act} {w : World} {l : List Oper} {Inv : World → Prop} {R : World → World → Prop} {T : Nat → Value → World → Prop}
    (B : (Nat → Value) → Act) (hm : P.follows .mixedOrders = true) (hB : ∀ t, putsFrom a t l 0 = B t)
    (hd : distinctB l = true) (hb : backB .any l 0 = true) (hG : l.all (fun o => o.guard.isNone) = true)
    (hT : ∀ j v w w', R w w' → T j v w → T j v w') (hU : ∀ w, Inv w → R w w) (hI : Inv { w with drawn := w.drawn + 1 })
    (hE : EachOps P .any l.toArray Q B (fun j => a.tmps.getD (((l[j]?).bind (·.dst)).getD 0) undef) Inv R T l 0)
    (hQ : ∀ t w, Inv w → (∀ j, j < l.length → T j (t j) w) → Q .normal (B t) w) : (Code.region id l.toArray true).wp P Q a w := by
  refine wp_region_any hm ?_
  refine wpAny_each (B := B) (t0 := fun j => a.tmps.getD (((l[j]?).bind (·.dst)).getD 0) undef) (Inv := Inv) (R := R) (T := T) ?_ (by simpa using hb) hT hU (by simpa using hE) (by simpa using hG) (by simpa using hQ) _ _ (fun j => a.tmps.getD (((l[j]?).bind (·.dst)).getD 0) undef) _ _ (toCome_replicate _) ⟨by simp, hI, ?_, ?_, fun _ _ => rfl, ?_⟩
  · intro t i o v ho
    rw [← hB, ← hB]
    exact putsFrom_put a t v l 0 hd (Nat.zero_le _) (by simpa using ho)
  · rw [← hB]
    exact (putsFrom_old a _ l 0 (fun j o d ho hd => by simp [ho, hd])).symm
  · intro j hj
    exfalso
    obtain ⟨h1, -⟩ := getD_lt hj
    simp [Array.getD] at hj
  · intro j o _ hj
    exfalso
    simp [Array.getD] at hj
end
end Go.Proofs.Ytjabldjffpjkeaa
