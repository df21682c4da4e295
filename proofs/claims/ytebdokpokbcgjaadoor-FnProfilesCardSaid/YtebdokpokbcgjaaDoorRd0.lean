/- Texts read: cut at a byte, numbers in decimal; plain. -/
import Derived.Lib.SplitLaws
import Derived.Lib.CutLaws
import Derived.Lib.ItoaLen
import Derived.Lib.ItoaMem
import Derived.Lib.ParseIntB
import Derived.Lib.Join
import Derived.Test.YtebdokpokbcgjaaDoorProg
namespace Go.Proofs.YtebdokpokbcgjaaDoor
set_option linter.unusedSimpArgs false
set_option linter.unusedVariables false

/-- cut at each b -/
def splB (b : UInt8) : List UInt8 → List UInt8 → List (List UInt8)
  | cur, [] => [cur]
  | cur, c :: r => if c = b then cur :: splB b [] r else splB b (cur ++ [c]) r
def spl (b : UInt8) (l : List UInt8) : List (List UInt8) := splB b [] l
theorem splB_miss (b : UInt8) : ∀ (l cur : List UInt8), (∀ c ∈ l, c ≠ b) → splB b cur l = [cur ++ l] := by
  intro l
  induction l with
  | nil => intro cur _; simp [splB]
  | cons c r ih =>
    intro cur h
    rw [splB, if_neg (h c (by simp)), ih _ (fun x hx => h x (by simp [hx]))]
    simp
theorem splB_hit (b : UInt8) : ∀ (p r cur : List UInt8), (∀ c ∈ p, c ≠ b) → splB b cur (p ++ b :: r) = (cur ++ p) :: splB b [] r := by
  intro p
  induction p with
  | nil => intro r cur _; simp [splB]
  | cons c p ih =>
    intro r cur h
    rw [List.cons_append, splB, if_neg (h c (by simp)), ih _ _ (fun x hx => h x (by simp [hx]))]
    simp
theorem occ_one (l : List UInt8) (b : UInt8) (j : Nat) : Lib.occAt l [b] j = true ↔ l[j]? = some b := by
  unfold Lib.occAt
  rw [← List.head?_drop]
  cases l.drop j with
  | nil => simp [List.isPrefixOf]
  | cons c r =>
    simp only [List.isPrefixOf, List.head?_cons, Bool.and_true, Option.some.injEq, beq_iff_eq]
    exact ⟨fun h => h.symm, fun h => h.symm⟩
/-- where the first b lies -/
theorem idx_one (l : List UInt8) (b : UInt8) : (Lib.index l [b] = -1 ∧ ∀ c ∈ l, c ≠ b) ∨ (∃ p r, l = p ++ b :: r ∧ (∀ c ∈ p, c ≠ b) ∧ Lib.index l [b] = (p.length : Int)) := by
  rcases Lib.index_spec l [b] with ⟨h1, h2⟩ | ⟨i, h1, h2, h3, h4⟩
  · refine .inl ⟨h1, fun c hc e => ?_⟩
    subst e
    obtain ⟨j, hj, e⟩ := List.mem_iff_getElem.1 hc
    have := h2 j (by omega)
    rw [(occ_one l c j).2 (by rw [List.getElem?_eq_getElem hj, e])] at this
    cases this
  · have hi := (occ_one l b i).1 h3
    have hl := (List.getElem?_eq_some_iff.1 hi).1
    have he := (List.getElem?_eq_some_iff.1 hi).2
    refine .inr ⟨l.take i, l.drop (i + 1), ?_, fun c hc e => ?_, by rw [h1, List.length_take]; omega⟩
    · rw [← he, List.getElem_cons_drop, List.take_append_drop]
    · subst e
      obtain ⟨j, hj, e⟩ := List.mem_iff_getElem.1 hc
      rw [List.length_take] at hj
      have := h4 j (by omega)
      rw [(occ_one l c j).2 (by rw [List.getElem?_eq_getElem (by omega)]; rw [List.getElem_take] at e; rw [e])] at this
      cases this
theorem lib_split (b : UInt8) : ∀ (n : Nat) (l : List UInt8), l.length ≤ n → Lib.split l [b] = spl b l := by
  intro n
  induction n with
  | zero =>
    intro l hl
    have : l = [] := List.eq_nil_of_length_eq_zero (by omega)
    subst this
    unfold Lib.split spl splB
    rw [Lib.count_miss (by
      rcases idx_one [] b with ⟨h, -⟩ | ⟨p, r, h, -⟩
      · exact h
      · simp at h)]
    rfl
  | succ n ih =>
    intro l hl
    rcases idx_one l b with ⟨h1, h2⟩ | ⟨p, r, rfl, h2, h3⟩
    · unfold Lib.split spl
      rw [Lib.count_miss h1, splB_miss b l [] h2]
      rfl
    · have hd : (p ++ b :: r).drop (p.length + [b].length) = r := by
        rw [List.length_singleton, ← List.drop_drop]
        simp
      have hc := Lib.count_hit (s := p ++ b :: r) (sub := [b]) (by simp) h3
      rw [hd] at hc
      unfold spl
      rw [splB_hit b p r [] h2]
      have hi := ih r (by simp at hl; omega)
      unfold spl at hi
      rw [← hi]
      unfold Lib.split
      rw [hc, Nat.add_comm, Lib.splitK, if_neg (by rw [h3]; simp)]
      have e1 : (Lib.index (p ++ b :: r) [b]).toNat = p.length := by rw [h3]; omega
      rw [e1, hd]
      simp
theorem lib_cut_hit (b : UInt8) {p r : List UInt8} (h : ∀ c ∈ p, c ≠ b) : Lib.cut (p ++ b :: r) [b] = (p, r, true) := by
  rcases idx_one (p ++ b :: r) b with ⟨-, h2⟩ | ⟨p', r', h1, h2, h3⟩
  · exact absurd rfl (h2 b (by simp))
  · have e : splB b [] (p ++ b :: r) = splB b [] (p' ++ b :: r') := by rw [h1]
    rw [splB_hit b p r [] h, splB_hit b p' r' [] h2] at e
    simp only [List.nil_append, List.cons.injEq] at e
    obtain ⟨rfl, -⟩ := e
    have hr : r = r' := by
      have := List.append_cancel_left h1
      injection this
    subst hr
    unfold Lib.cut
    rw [h3, if_pos (by omega)]
    simp
theorem lib_cut_miss (b : UInt8) {l : List UInt8} (h : ∀ c ∈ l, c ≠ b) : Lib.cut l [b] = (l, [], false) := by
  rcases idx_one l b with ⟨h1, -⟩ | ⟨p', r', h1, h2, h3⟩
  · unfold Lib.cut
    rw [h1, if_neg (by omega)]
  · exact absurd rfl (h b (by rw [h1]; simp))

/-! numbers -/
def dgB (c : UInt8) : Bool := decide (48 ≤ c.toNat) && decide (c.toNat ≤ 57)
def vstep (n : Nat) (c : UInt8) : Nat := n * 10 + (c.toNat - 48)
def valF (n : Nat) (l : List UInt8) : Nat := l.foldl vstep n
theorem d_small {n : Nat} (h : n < 10) : Lib.decDigits n = [UInt8.ofNat (48 + n)] := by rw [Lib.decDigits, dif_pos h]
theorem d_big {n : Nat} (h : ¬ n < 10) : Lib.decDigits n = Lib.decDigits (n / 10) ++ [UInt8.ofNat (48 + n % 10)] := by rw [Lib.decDigits, dif_neg h]
theorem u8_dig {d : Nat} (h : d < 10) : (UInt8.ofNat (48 + d)).toNat = 48 + d := by rw [UInt8.toNat_ofNat']; omega
theorem d_dig (n : Nat) : ∀ c ∈ Lib.decDigits n, dgB c = true := by
  induction n using Nat.strongRecOn with
  | _ n ih =>
    intro c hc
    by_cases h : n < 10
    · rw [d_small h] at hc
      simp at hc
      subst hc
      simp [dgB, u8_dig h]; omega
    · rw [d_big h, List.mem_append] at hc
      rcases hc with hc | hc
      · exact ih (n / 10) (by omega) c hc
      · simp at hc
        subst hc
        simp [dgB, u8_dig (show n % 10 < 10 by omega)]; omega
theorem d_val (n : Nat) : valF 0 (Lib.decDigits n) = n := by
  induction n using Nat.strongRecOn with
  | _ n ih =>
    by_cases h : n < 10
    · rw [d_small h]
      show vstep 0 (UInt8.ofNat (48 + n)) = n
      unfold vstep
      rw [u8_dig h]
      omega
    · rw [d_big h]
      have := ih (n / 10) (by omega)
      unfold valF at this ⊢
      rw [List.foldl_append, this]
      simp [vstep, u8_dig (show n % 10 < 10 by omega)]
      omega
theorem d_ne (n : Nat) : Lib.decDigits n ≠ [] := by
  intro e
  have := Lib.decDigits_length n
  rw [e] at this
  have := Lib.nDigits_pos n
  simp at *
  omega
theorem d_len12 {n : Nat} (h : n < 1000000000000) : (Lib.decDigits n).length ≤ 12 := by
  rw [Lib.decDigits_length]
  rcases Nat.lt_or_ge 12 (Lib.nDigits n) with h1 | h1
  · exfalso
    have : ∀ k u, k + 1 ≤ Lib.nDigits u → 1 ≤ k → 10 ^ k ≤ u := by
      intro k
      induction k with
      | zero => intro u _ h; omega
      | succ k ih =>
        intro u hu _
        by_cases hs : u < 10
        · rw [Lib.nDigits_small hs] at hu; omega
        · rw [Lib.nDigits_big hs] at hu
          rcases Nat.eq_zero_or_pos k with rfl | hk
          · omega
          · have := ih (u / 10) (by omega) hk
            rw [Nat.pow_succ]
            omega
    have := this 12 n (by omega) (by omega)
    omega
  · exact h1
theorem val_ge : ∀ (l : List UInt8) (a : Nat), a ≤ valF a l := by
  intro l
  induction l with
  | nil => intro a; exact Nat.le_refl _
  | cons c r ih =>
    intro a
    have := ih (vstep a c)
    have h2 : a ≤ vstep a c := by unfold vstep; omega
    show a ≤ valF (vstep a c) r
    omega
theorem val_lt : ∀ (l : List UInt8) (a : Nat), (∀ c ∈ l, dgB c = true) → valF a l < (a + 1) * 10 ^ l.length := by
  intro l
  induction l with
  | nil => intro a _; simp [valF]
  | cons c r ih =>
    intro a h
    have h1 := ih (vstep a c) (fun x hx => h x (by simp [hx]))
    have h2 := h c (by simp)
    unfold dgB at h2
    simp only [Bool.and_eq_true, decide_eq_true_eq] at h2
    have h3 : vstep a c + 1 ≤ (a + 1) * 10 := by unfold vstep; omega
    have h4 := Nat.mul_le_mul_right (10 ^ r.length) h3
    show valF (vstep a c) r < _
    rw [List.length_cons, Nat.pow_succ, Nat.mul_comm (10 ^ r.length) 10, ← Nat.mul_assoc]
    omega
theorem parse_dig (M : Nat) (hM : M ≤ 18446744073709551615) : ∀ (l : List UInt8) (a : Nat), (∀ c ∈ l, dgB c = true) → valF a l ≤ M → Lib.parseUintM M a l = .ok (valF a l) := by
  intro l
  induction l with
  | nil => intro a _ _; rfl
  | cons c r ih =>
    intro a h hv
    have h2 := h c (by simp)
    unfold dgB at h2
    simp only [Bool.and_eq_true, decide_eq_true_eq] at h2
    have h3 := val_ge r (vstep a c)
    have hv' : valF (vstep a c) r ≤ M := hv
    have h4 : vstep a c ≤ M := by omega
    have h5 : a * 10 + (c.toNat - 48) ≤ M := h4
    rw [Lib.parseUintM, if_pos h2, if_neg (by omega), if_neg (by omega)]
    exact ih (vstep a c) (fun x hx => h x (by simp [hx])) hv'
theorem parse_itoa {v : Int} (h0 : -9223372036854775808 ≤ v) (h1 : v ≤ 9223372036854775807) : Lib.parseIntB 64 (Lib.itoa v) = .ok v := by
  have hP : ∀ n : Nat, n ≤ 9223372036854775808 → Lib.parseUintB 64 (Lib.decDigits n) = .ok n := by
    intro n hn
    unfold Lib.parseUintB
    rw [if_neg (d_ne n), parse_dig _ (by decide) _ 0 (d_dig n) (by rw [d_val]; omega), d_val]
  unfold Lib.itoa
  by_cases h : v < 0
  · rw [if_pos h]
    have hp := hP v.natAbs (by omega)
    unfold Lib.parseIntB
    simp only
    rw [if_pos (Or.inr (by decide)), hp]
    simp only
    rw [if_neg (fun q => q.1 (by decide)), if_neg (by omega), if_pos (by decide)]
    congr 1
    omega
  · rw [if_neg h]
    have hp := hP v.toNat (by omega)
    have hd := d_dig v.toNat
    cases hl : Lib.decDigits v.toNat with
    | nil => exact absurd hl (d_ne _)
    | cons c r =>
      rw [hl] at hp hd
      have hc := hd c (by simp)
      unfold dgB at hc
      simp only [Bool.and_eq_true, decide_eq_true_eq] at hc
      unfold Lib.parseIntB
      simp only
      rw [if_neg (by omega), hp]
      simp only
      rw [if_neg (by omega), if_neg (by omega), if_neg (by omega)]
      congr 1
      omega
/-- a number as the program reads it -/
def rdZ (l : List UInt8) : Option Int := match Lib.parseIntB 64 l with | .ok v => if Lib.itoa v = l then some v else none | _ => none
theorem rdZ_of {l : List UInt8} {v : Int} (h : rdZ l = some v) : l = Lib.itoa v := by
  unfold rdZ at h
  split at h
  · split at h
    · rename_i e; injection h with h; subst h; exact e.symm
    · cases h
  · cases h
theorem rdZ_itoa {v : Int} (h0 : -9223372036854775808 ≤ v) (h1 : v ≤ 9223372036854775807) : rdZ (Lib.itoa v) = some v := by
  unfold rdZ
  rw [parse_itoa h0 h1]
  simp
/-- a number of at most twelve digits, no sign, as the reference reads it -/
def rdV (l : List UInt8) : Option Nat := if 1 ≤ l.length ∧ l.length ≤ 12 ∧ l.all dgB = true ∧ Lib.decDigits (valF 0 l) = l then some (valF 0 l) else none
def rdS : List UInt8 → Option Int
  | [] => none
  | c :: r => if c = 45 then (match rdV r with | some n => if 0 < n then some (-(n : Int)) else none | none => none) else (match rdV (c :: r) with | some n => some (n : Int) | none => none)
theorem rdV_some {l : List UInt8} {n : Nat} (h : rdV l = some n) : l = Lib.decDigits n ∧ n < 1000000000000 := by
  unfold rdV at h
  split at h
  · rename_i q
    injection h with h
    subst h
    refine ⟨q.2.2.2.symm, ?_⟩
    have h1 := val_lt l 0 (List.all_eq_true.1 q.2.2.1)
    have h2 : 10 ^ l.length ≤ 10 ^ 12 := Nat.pow_le_pow_right (by omega) q.2.1
    omega
  · cases h
theorem rdV_dec {n : Nat} (h : n < 1000000000000) : rdV (Lib.decDigits n) = some n := by
  unfold rdV
  rw [d_val, if_pos ⟨List.length_pos_iff.2 (d_ne n), d_len12 h, List.all_eq_true.2 (d_dig n), rfl⟩]
theorem rdS_some {l : List UInt8} {v : Int} (h : rdS l = some v) : l = Lib.itoa v ∧ -1000000000000 < v ∧ v < 1000000000000 := by
  cases l with
  | nil => cases h
  | cons c r =>
    rw [rdS] at h
    by_cases hc : c = 45
    · rw [if_pos hc] at h
      split at h
      · rename_i n hn
        split at h
        · rename_i h0
          injection h with h
          obtain ⟨e1, e2⟩ := rdV_some hn
          subst h
          refine ⟨?_, by omega, by omega⟩
          unfold Lib.itoa
          rw [if_pos (by omega), hc, e1]
          congr 2
          omega
        · cases h
      · cases h
    · rw [if_neg hc] at h
      split at h
      · rename_i n hn
        injection h with h
        obtain ⟨e1, e2⟩ := rdV_some hn
        subst h
        refine ⟨?_, by omega, by omega⟩
        unfold Lib.itoa
        rw [if_neg (by omega), e1]
        congr 1
      · cases h
theorem rdS_itoa {v : Int} (h0 : -1000000000000 < v) (h1 : v < 1000000000000) : rdS (Lib.itoa v) = some v := by
  unfold Lib.itoa
  by_cases h : v < 0
  · rw [if_pos h, rdS, if_pos rfl, rdV_dec (by omega)]
    simp only
    rw [if_pos (by omega)]
    congr 1
    omega
  · rw [if_neg h]
    have hd := d_dig v.toNat
    have hr := rdV_dec (n := v.toNat) (by omega)
    cases hl : Lib.decDigits v.toNat with
    | nil => exact absurd hl (d_ne _)
    | cons c r =>
      rw [hl] at hd hr
      have hc := hd c (by simp)
      unfold dgB at hc
      simp only [Bool.and_eq_true, decide_eq_true_eq] at hc
      rw [rdS, if_neg (fun e => by rw [e] at hc; simp at hc), hr]
      simp only
      congr 1
      omega
theorem itoa_mem {v : Int} {c : UInt8} (h : c ∈ Lib.itoa v) : c = 45 ∨ dgB c = true := by
  unfold Lib.itoa at h
  split at h
  · rcases List.mem_cons.1 h with h | h
    · exact .inl h
    · exact .inr (d_dig _ c h)
  · exact .inr (d_dig _ c h)
theorem itoa_no {v : Int} {b : UInt8} (hb : b ≠ 45) (hd : dgB b = false) : ∀ c ∈ Lib.itoa v, c ≠ b := by
  intro c hc e
  subst e
  rcases itoa_mem hc with h | h
  · exact hb h
  · rw [hd] at h; cases h
end Go.Proofs.YtebdokpokbcgjaaDoor
