/- Texts cut at a byte, by the reference and by the library. -/
import Derived.Test.YtebdokpokbcgjaaDoorRdM
namespace Go.Proofs.YtebdokpokbcgjaaDoor
set_option linter.unusedSimpArgs false
set_option linter.unusedVariables false
open Go.RowKit

/-- the slice with address A and capacity c reads as these texts -/
def StrsAt (w : World) (A : Option Addr) (c : Nat) (L : List (List UInt8)) : Prop :=
  L.length ≤ c ∧ c ≤ 9223372036854775807 ∧ ∃ g off, A = some ⟨g, off, none⟩ ∧ g < w.heap.size ∧ ∀ (j : Nat) z, L[j]? = some z → w.cell? ⟨g, off + j, none⟩ = some (strL z)
theorem StrsAt.below {w w1 : World} {B c : Nat} {A : Option Addr} {L : List (List UInt8)} (h : StrsAt w A c L) (hb : Below B w w1) (hB : w.heap.size ≤ B) : StrsAt w1 A c L := by
  obtain ⟨h1, h2, g, off, rfl, hg, hc⟩ := h
  have := hb.size
  exact ⟨h1, h2, g, off, rfl, by omega, fun j z hz => (bAt hb (by omega)).trans (hc j z hz)⟩
theorem OwnT.strs {w : World} {base c n : Nat} {A : Option Addr} {L : List (List UInt8)} (h : OwnT w base (.slice A n c) L) (h0 : 0 < L.length) : n = L.length ∧ StrsAt w A c L ∧ ∃ g, A = some ⟨g, 0, none⟩ ∧ base ≤ g := by
  obtain ⟨A', c', e, hc', -⟩ := id h
  simp only [Value.slice.injEq] at e
  obtain ⟨rfl, rfl, rfl⟩ := e
  obtain ⟨g, rfl, -, h1, h2, h3, h4⟩ := h.cells h0
  exact ⟨rfl, ⟨h3, hc', g, 0, rfl, h2, fun j z hz => h4 j _ (by rw [List.getElem?_map, hz]; rfl)⟩, g, rfl, h1⟩
theorem splB_pos (b : UInt8) : ∀ (l cur : List UInt8), 0 < (splB b cur l).length := by
  intro l
  induction l with
  | nil => intro cur; simp [splB]
  | cons c r ih =>
    intro cur
    rw [splB]
    split
    · simp
    · exact ih _
theorem spl_pos (b : UInt8) (l : List UInt8) : 0 < (spl b l).length := splB_pos b l []
theorem splB_size (b : UInt8) : ∀ (l cur : List UInt8), (splB b cur l).length ≤ l.length + 1 := by
  intro l
  induction l with
  | nil => intro cur; simp [splB]
  | cons c r ih =>
    intro cur
    rw [splB]
    split
    · have := ih []; simp; omega
    · have := ih (cur ++ [c]); simp; omega
theorem splB_word (b : UInt8) : ∀ (l cur : List UInt8), ∀ z ∈ splB b cur l, z.length ≤ cur.length + l.length := by
  intro l
  induction l with
  | nil => intro cur z hz; simp [splB] at hz; subst hz; omega
  | cons c r ih =>
    intro cur z hz
    rw [splB] at hz
    split at hz
    · rcases List.mem_cons.1 hz with rfl | hz
      · simp
      · have := ih [] z hz; simp at this ⊢; omega
    · have := ih _ z hz; simp at this ⊢; omega
theorem spl_word {b : UInt8} {l z : List UInt8} (h : z ∈ spl b l) : z.length ≤ l.length := by
  have := splB_word b l [] z h; simpa using this
theorem drop_at {l : List UInt8} {k : Nat} {x : UInt8} (h : l[k]? = some x) : l.drop k = x :: l.drop (k + 1) := by
  obtain ⟨h1, h2⟩ := List.getElem?_eq_some_iff.1 h
  rw [List.drop_eq_getElem_cons h1, h2]
theorem cur_next {l : List UInt8} {p k : Nat} {x : UInt8} (hp : p ≤ k) (h : l[k]? = some x) : (l.take (k + 1)).drop p = (l.take k).drop p ++ [x] := by
  have h1 := (List.getElem?_eq_some_iff.1 h).1
  rw [List.take_add_one, h, List.drop_append_of_le_length (by rw [List.length_take]; omega)]
  rfl
theorem cur_none (l : List UInt8) (k : Nat) : (l.take k).drop k = [] := List.drop_eq_nil_of_le (by rw [List.length_take]; omega)
/-- where the cutting stands -/
def SpAt (b : UInt8) (l : List UInt8) (P : List (List UInt8)) (p k : Nat) : Prop := (k ≤ l.length ∧ p ≤ k ∧ P ++ splB b ((l.take k).drop p) (l.drop k) = spl b l) ∨ (k = l.length + 1 ∧ P = spl b l)
theorem SpAt.zero (b : UInt8) (l : List UInt8) : SpAt b l [] 0 0 := .inl ⟨by omega, by omega, by simp [spl]⟩
theorem SpAt.last {b : UInt8} {l : List UInt8} {P : List (List UInt8)} {p k : Nat} (h : SpAt b l P p k) (hk : k = l.length) : SpAt b l (P ++ [(l.take k).drop p]) (k + 1) (k + 1) := by
  rcases h with ⟨-, -, h3⟩ | ⟨h1, -⟩
  · refine .inr ⟨by omega, ?_⟩
    rw [← h3, hk, List.drop_length]
    rfl
  · omega
theorem SpAt.hit {b : UInt8} {l : List UInt8} {P : List (List UInt8)} {p k : Nat} (h : SpAt b l P p k) (hk : l[k]? = some b) : SpAt b l (P ++ [(l.take k).drop p]) (k + 1) (k + 1) := by
  have h1 := (List.getElem?_eq_some_iff.1 hk).1
  rcases h with ⟨-, -, h3⟩ | ⟨h2, -⟩
  · refine .inl ⟨by omega, by omega, ?_⟩
    rw [← h3, drop_at hk, splB, if_pos rfl, cur_none]
    simp
  · omega
theorem SpAt.miss {b x : UInt8} {l : List UInt8} {P : List (List UInt8)} {p k : Nat} (h : SpAt b l P p k) (hk : l[k]? = some x) (hx : x ≠ b) : SpAt b l P p (k + 1) := by
  have h1 := (List.getElem?_eq_some_iff.1 hk).1
  rcases h with ⟨-, hp, h3⟩ | ⟨h2, -⟩
  · refine .inl ⟨by omega, by omega, ?_⟩
    rw [← h3, drop_at hk, splB, if_neg hx, cur_next hp hk]
  · omega

set_option maxRecDepth 20000 in
set_option maxHeartbeats 4000000 in
theorem l01Split_any (l : List UInt8) (b : UInt8) (w : World) (hl : l.length ≤ 2000000) :
    Calls Tryd.prog 61 #[strL l, .int .u8 (b.toNat : Int)] w fun e w' => (∃ g c', e = .returned (.slice (some ⟨g, 0, none⟩) (spl b l).length c') ∧ StrsAt w' (some ⟨g, 0, none⟩) c' (spl b l) ∧ w.heap.size ≤ g) ∧ Below w.heap.size w w' := by
  go_enter Tryd.func61, Tryd.ntmps61
  go_wp2
  go_loopw [5, 6, 7] (fun o f i wr => Below w.heap.size w wr ∧ ∃ (P : List (List UInt8)) (p k : Nat), f = .int .i64 p ∧ i = .int .i64 k ∧ P.length ≤ k ∧ p ≤ k ∧ k ≤ l.length + 1 ∧ OwnT wr w.heap.size o P ∧ SpAt b l P p k) (fun _ _ i _ => l.length + 1 - (intOf i).toNat)
  case atStart => exact ⟨by go_grown, [], 0, 0, rfl, rfl, by simp, by omega, by omega, OwnT.zero (Nat.le_refl _), SpAt.zero b l⟩
  case round =>
    obtain ⟨Br, P, p, k, rfl, rfl, hP, hpk, hk, hown, hsp⟩ := hrel
    obtain ⟨A', c', rfl, hc', -⟩ := id hown
    have sr := Br.size
    have HBr := Lib.hid Br; have HO := Lib.hid hown; have HS := Lib.hid hsp; clear Br hown hsp
    by_cases hlt : k ≤ l.length
    · have kk0 : (0 : Int) ≤ k := by omega
      have kk1 : (k : Int) ≤ l.length := by omega
      have pp0 : (0 : Int) ≤ p := by omega
      have pp1 : (p : Int) ≤ k := by omega
      have hex := ex_drop l p k
      by_cases hke : k = l.length
      · have HN := Lib.hid (HS.out.last hke)
        have hb1 : ((k : Int) == (l.length : Int)) = true := beq_iff_eq.2 (by omega)
        clear hke
        go_wp2_with (at_builtin; refine listT rfl _ _ rfl w.heap.size _ P ((l.take k).drop p) _ rfl rfl ?_ (HO.out.below (B := wr.heap.size) (by first | exact Below.refl _ _ | (go_grown; done) | exact bdrewN (Below.refl _ _) _) (Nat.le_refl _)) (by omega) (by first | omega | (simp; omega)) ?_; (focus (simp [*, go_sem]; done)); intro A9 c9 w9 T9 F9; have OT := Lib.hid T9; have BF := Lib.hid F9; clear T9 F9)
        go_roundw
        all_goals first | exact ⟨HBr.out.trans (Below.trans (show Below w.heap.size wr _ from (by first | exact Below.refl _ _ | (go_grown; done) | exact bdrewN (Below.refl _ _) _)) BF.out), P ++ [(l.take k).drop p], k + 1, k + 1, by go_num, by go_num, by simp; omega, by omega, by omega, OT.out, HN.out⟩ | (simp [intOf]; omega)
      · have hb1 : ((k : Int) == (l.length : Int)) = false := beq_eq_false_iff_ne.2 (by omega)
        have hkl : k < l.length := by omega
        have kk2 : (k : Int) < l.length := by omega
        obtain ⟨x, hx, hby⟩ := byte_at hkl
        clear hke
        by_cases hxb : x = b
        · subst hxb
          have HN := Lib.hid (HS.out.hit hx)
          have hb2 : ((x.toNat : Int) == (x.toNat : Int)) = true := beq_iff_eq.2 rfl
          go_wp2_with (at_builtin; refine listT rfl _ _ rfl w.heap.size _ P ((l.take k).drop p) _ rfl rfl ?_ (HO.out.below (B := wr.heap.size) (by first | exact Below.refl _ _ | (go_grown; done) | exact bdrewN (Below.refl _ _) _) (Nat.le_refl _)) (by omega) (by first | omega | (simp; omega)) ?_; (focus (simp [*, go_sem]; done)); intro A9 c9 w9 T9 F9; have OT := Lib.hid T9; have BF := Lib.hid F9; clear T9 F9)
          go_roundw
          all_goals first | exact ⟨HBr.out.trans (Below.trans (show Below w.heap.size wr _ from (by first | exact Below.refl _ _ | (go_grown; done) | exact bdrewN (Below.refl _ _) _)) BF.out), P ++ [(l.take k).drop p], k + 1, k + 1, by go_num, by go_num, by simp; omega, by omega, by omega, OT.out, HN.out⟩ | (simp [intOf]; omega)
        · have HN := Lib.hid (HS.out.miss hx hxb)
          have hb2 : ((x.toNat : Int) == (b.toNat : Int)) = false := beq_eq_false_iff_ne.2 (fun q => hxb (by apply UInt8.toNat_inj.1; show x.toNat = b.toNat; omega))
          clear hxb
          go_wp2
          go_roundw
          all_goals first | exact ⟨HBr.out.trans (show Below w.heap.size wr _ from (by first | exact Below.refl _ _ | (go_grown; done) | exact bdrewN (Below.refl _ _) _)), P, p, k + 1, rfl, by go_num, by omega, by omega, by omega, HO.out.below (B := wr.heap.size) (by first | exact Below.refl _ _ | (go_grown; done) | exact bdrewN (Below.refl _ _) _) (Nat.le_refl _), HN.out⟩ | (simp [intOf]; omega)
    · obtain rfl : k = l.length + 1 := by omega
      have hPe : P = spl b l := by
        rcases HS.out with ⟨h, -⟩ | ⟨-, h⟩
        · omega
        · exact h
      subst hPe
      go_wp2
      go_ret
      obtain ⟨e1, e2, g, rfl, hg⟩ := OwnT.strs HO.out (spl_pos b l)
      exact ⟨⟨g, c', rfl, e2, hg⟩, HBr.out⟩
end Go.Proofs.YtebdokpokbcgjaaDoor
