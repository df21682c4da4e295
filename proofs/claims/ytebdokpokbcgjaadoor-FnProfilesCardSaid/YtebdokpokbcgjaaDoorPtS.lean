/- ProfileText, by the program and by the reference. -/
import Derived.Test.YtebdokpokbcgjaaDoorTxt0
import Derived.Test.YtebdokpokbcgjaaDoorFast
import Derived.BigRegion
import Derived.BigQuiet
namespace Go.Proofs.YtebdokpokbcgjaaDoor
set_option linter.unusedSimpArgs false
set_option linter.unusedVariables false
open Go.RowKit

/-- a profile, its numbers' bounds -/
structure ProIs (ts ls : List Int) : Prop where
  l1 : 1 ≤ ts.length
  l2 : ts.length ≤ 12
  l3 : ls.length = ts.length
  t : ∀ (k : Nat) x, ts[k]? = some x → 0 ≤ x ∧ x ≤ 1000000
  up : True
  v : ∀ (k : Nat) x, ls[k]? = some x → 1300000 ≤ x ∧ x ≤ 1700000
theorem pro_is {ts ls : List Int} (h : profB ts ls = true) : ProIs ts ls := by
  obtain ⟨a, b, c, d⟩ := prof_len h
  have hr : risB ts 1000001 = true := by
    simp only [profB, Bool.and_eq_true] at h
    exact h.1.1.2
  refine ⟨by omega, b, by omega, fun k x hx => ?_, trivial, fun k x hx => prof_speed h hx⟩
  have := ris_in hr hx; omega
/-- the word of one reading -/
def pxW (t l : Int) : List UInt8 := Lib.itoa t ++ [58] ++ Lib.itoa l
/-- the first words -/
def pxL (ts ls : List Int) : Nat → List (List UInt8)
  | 0 => []
  | k + 1 => pxL ts ls k ++ [pxW (ts.getD k 0) (ls.getD k 0)]
/-- the text -/
def pxS (ts ls : List Int) : List UInt8 := if profB ts ls then Lib.join (pxL ts ls ts.length) [44] else []
theorem pxL_len (ts ls : List Int) : ∀ k, (pxL ts ls k).length = k := by
  intro k
  induction k with
  | zero => rfl
  | succ k ih => rw [pxL, List.length_append, ih]; rfl
theorem pxL_next {ts ls : List Int} {k : Nat} {x y : Int} (h1 : ts[k]? = some x) (h2 : ls[k]? = some y) : pxL ts ls (k + 1) = pxL ts ls k ++ [pxW x y] := by
  rw [pxL, List.getD_eq_getElem?_getD, List.getD_eq_getElem?_getD, h1, h2]; rfl
theorem pxW_len {t l : Int} (h1 : -9223372036854775808 ≤ t) (h2 : t ≤ 9223372036854775807) (h3 : -9223372036854775808 ≤ l) (h4 : l ≤ 9223372036854775807) : (pxW t l).length ≤ 43 := by
  have a := itoa_len h1 h2
  have b := itoa_len h3 h4
  unfold pxW
  simp only [List.length_append, List.length_cons, List.length_nil]
  omega
theorem pxL_w {ts ls : List Int} (g : ProIs ts ls) : ∀ k, k ≤ ts.length → ∀ x ∈ pxL ts ls k, x.length ≤ 43 := by
  intro k
  induction k with
  | zero => intro _ x hx; simp [pxL] at hx
  | succ k ih =>
    intro hk x hx
    obtain ⟨x1, h1⟩ : ∃ x, ts[k]? = some x := ⟨_, List.getElem?_eq_getElem (by omega)⟩
    obtain ⟨x2, h2⟩ : ∃ x, ls[k]? = some x := ⟨_, List.getElem?_eq_getElem (by have := g.l3; omega)⟩
    rw [pxL_next h1 h2, List.mem_append] at hx
    rcases hx with hx | hx
    · exact ih (by omega) x hx
    · simp at hx
      subst hx
      have := g.t _ _ h1; have := g.v _ _ h2
      exact pxW_len (by omega) (by omega) (by omega) (by omega)
theorem pxJ_len {ts ls : List Int} (g : ProIs ts ls) {k : Nat} (hk : k ≤ ts.length) : (Lib.join (pxL ts ls k) [44]).length ≤ 1760 := by
  have h := join_len (sep := [44]) _ (pxL_w g k hk)
  rw [pxL_len] at h
  have := g.l2
  have : k * (43 + [(44 : UInt8)].length) ≤ 40 * 44 := Nat.mul_le_mul (by omega) (by simp)
  omega
theorem pxJ_zero {ts ls : List Int} {k : Nat} {x y : Int} (h0 : k = 0) (h1 : ts[k]? = some x) (h2 : ls[k]? = some y) : Lib.join (pxL ts ls (k + 1)) [44] = Lib.join (pxL ts ls k) [44] ++ Lib.itoa x ++ [58] ++ Lib.itoa y := by
  have e : pxL ts ls k = [] := by subst h0; rfl
  rw [pxL_next h1 h2, join_snoc, if_pos e, e]
  rfl
theorem pxJ_next {ts ls : List Int} {k : Nat} {x y : Int} (h0 : 0 < k) (h1 : ts[k]? = some x) (h2 : ls[k]? = some y) : Lib.join (pxL ts ls (k + 1)) [44] = Lib.join (pxL ts ls k) [44] ++ [44] ++ Lib.itoa x ++ [58] ++ Lib.itoa y := by
  have hne : pxL ts ls k ≠ [] := fun e => by have := congrArg List.length e; rw [pxL_len] at this; simp at this; omega
  rw [pxL_next h1 h2, join_snoc, if_neg hne]
  unfold pxW
  simp only [List.append_assoc]
theorem strp_cat {a b c d : List UInt8} (h : a = b ++ c ++ [58] ++ d) : Value.string ((⟨b.toArray⟩ : ByteArray) ++ ⟨c.toArray⟩ ++ ⟨#[58]⟩ ++ ⟨d.toArray⟩) = strL a := by
  rw [show (⟨#[58]⟩ : ByteArray) = ⟨[58].toArray⟩ from rfl, cat, cat, cat, h]
theorem strp_cat2 (a b : List UInt8) : Value.string ((⟨a.toArray⟩ : ByteArray) ++ ⟨#[58]⟩ ++ ⟨b.toArray⟩) = strL (a ++ [58] ++ b) := by
  rw [show (⟨#[58]⟩ : ByteArray) = ⟨[58].toArray⟩ from rfl, cat, cat]
theorem strp_cat1 {a b c d : List UInt8} (h : a = b ++ [44] ++ c ++ [58] ++ d) : Value.string ((⟨b.toArray⟩ : ByteArray) ++ ⟨#[44]⟩ ++ ⟨c.toArray⟩ ++ ⟨#[58]⟩ ++ ⟨d.toArray⟩) = strL a := by
  rw [show (⟨#[58]⟩ : ByteArray) = ⟨[58].toArray⟩ from rfl, show (⟨#[44]⟩ : ByteArray) = ⟨[44].toArray⟩ from rfl, cat, cat, cat, cat, h]

set_option maxRecDepth 20000 in
set_option maxHeartbeats 4000000 in
theorem specProfileText_any (A1 A2 : Option Addr) (c1 c2 : Nat) (ts ls : List Int) (w : World) (h : ProfAt w A1 c1 A2 c2 ts ls) :
    Calls Tryd.prog 42 #[profV A1 ts.length c1 A2 ls.length c2] w fun e w' => e = .returned (strL (pxS ts ls)) ∧ Below w.heap.size w w' := by
  have hn1 := Nat.le_trans h.1.1 h.1.2.1
  have hn2 := Nat.le_trans h.2.1 h.2.2.1
  have H := Lib.hid h; clear h
  by_cases hp : profB ts ls = true
  · obtain ⟨l1, l2, l3', gt, -, gv⟩ := pro_is hp
    have GI := Lib.hid (pro_is hp)
    have l3 : ls.length ≤ ts.length := by omega
    have l4 : ts.length ≤ ls.length := by omega
    clear l3'
    have GT := Lib.hid gt; have GV := Lib.hid gv; clear gt gv
    have HS := Lib.hid (show pxS ts ls = Lib.join (pxL ts ls ts.length) [44] by unfold pxS; rw [if_pos hp])
    go_enter Tryd.func42, Tryd.ntmps42
    go_wp2_with (go_at_call 44; refine (specIsProfile_any _ _ _ _ _ _ _ (H.out.1.below (B := w.heap.size) (by first | exact Below.refl _ _ | (go_grown; done) | exact bdrewN (by go_grown) _) (Nat.le_refl _)) (H.out.2.below (B := w.heap.size) (by first | exact Below.refl _ _ | (go_grown; done) | exact bdrewN (by go_grown) _) (Nat.le_refl _))).mono ?_; rintro e w1 ⟨rfl, hb1⟩; obtain ⟨B1, hz1, q1, s1, t1, x1, y1, z1⟩ := bkeep (w := w) [w.heap.size] (by first | (simp; done) | (simp; omega)) (by first | (go_grown; done) | exact bdrewN (by go_grown) _) hb1; (try simp at hz1); clear hb1)
    have e0 : w1.cell? ⟨w.heap.size, 0, none⟩ = some (.slice A1 ts.length c1) := (q1 w.heap.size 0 (by simp)).trans (by simp [*, go_sem])
    have e1 : w1.cell? ⟨w.heap.size, 1, none⟩ = some (.slice A2 ls.length c2) := (q1 w.heap.size 1 (by simp)).trans (by simp [*, go_sem])
    have hz : w.heap.size < w1.heap.size := by omega
    clear q1 s1 t1 x1 y1 z1
    go_loopw [3, 4] (fun o i wr => Below (w.heap.size + 1) w1 wr ∧ ∃ k : Nat, k ≤ ts.length ∧ i = .int .i64 k ∧ o = strL (Lib.join (pxL ts ls k) [44])) (fun _ i _ => ts.length - (intOf i).toNat)
    case atStart => exact ⟨Below.refl _ _, 0, by omega, rfl, rfl⟩
    case round =>
      obtain ⟨Br, k, hk, rfl, rfl⟩ := hrel
      have sr := Br.size
      have g0 := (bAt Br (b := w.heap.size) (o := 0) (by omega)).trans e0
      have g1 := (bAt Br (b := w.heap.size) (o := 1) (by omega)).trans e1
      have HP := Lib.hid (H.out.below (B1.trans (Br.mono (by omega))) (Nat.le_refl _))
      have HBr := Lib.hid Br
      by_cases hlt : k < ts.length
      · obtain ⟨b1, o1, x, rfl, hb1, hx, cx⟩ := HP.out.1.at_ hlt
        obtain ⟨b2, o2, y, rfl, hb2, hy, cy⟩ := HP.out.2.at_ (show k < ls.length by omega)
        have bx := GT.out _ _ hx; have bY := GV.out _ _ hy
        have HX := Lib.hid hx; have HY := Lib.hid hy; clear hx hy
        have kk0 : (0 : Int) ≤ k := by omega
        have kk1 : (k : Int) < ts.length := by omega
        have kk2 : (k : Int) < ls.length := by omega
        have sl : w.heap.size < wr.heap.size := by omega
        by_cases hk0 : k = 0
        · have hkp : ((0 : Int) < (k : Int)) = False := eq_false (by omega); have hkq : (0 < k) = False := eq_false (by omega)
          have HE := Lib.hid (pxJ_zero hk0 HX.out HY.out); clear hk0
          have lO := pxJ_len GI.out (k := k) (by omega)
          have lX := itoa_len (n := x) (by omega) (by omega); have lY := itoa_len (n := y) (by omega) (by omega)
          obtain ⟨O, hO⟩ : ∃ O, O = Lib.join (pxL ts ls k) [44] := ⟨_, rfl⟩
          rw [← hO] at lO HE ⊢
          clear hO
          obtain ⟨TX, hTX⟩ : ∃ O, O = Lib.itoa x := ⟨_, rfl⟩
          obtain ⟨TY, hTY⟩ : ∃ O, O = Lib.itoa y := ⟨_, rfl⟩
          have CX := Lib.hid (show ∀ W, Calls Tryd.prog 49 #[.int .i64 x] W fun e_ w' => e_ = .returned (strL TX) ∧ Below W.heap.size W w' from fun W => by rw [hTX]; exact l01Dec_int x W (by omega) (by omega))
          have CY := Lib.hid (show ∀ W, Calls Tryd.prog 49 #[.int .i64 y] W fun e_ w' => e_ = .returned (strL TY) ∧ Below W.heap.size W w' from fun W => by rw [hTY]; exact l01Dec_int y W (by omega) (by omega))
          rw [← hTX] at lX HE; rw [← hTY] at lY HE; clear hTX hTY
          have z1_ : (9223372036854775807 < O.length + TX.length) = False := eq_false (by omega)
          have z2_ : (9223372036854775807 < O.length + TX.length + 1) = False := eq_false (by omega)
          have z3_ : (9223372036854775807 < O.length + TX.length + 1 + TY.length) = False := eq_false (by omega)
          go_wp2_with fail
          go_region_held3 (fun w' => w'.cell? ⟨w.heap.size, 0, none⟩ = some (.slice (some ⟨b1, o1, none⟩) ts.length c1) ∧ w'.cell? ⟨w.heap.size, 1, none⟩ = some (.slice (some ⟨b2, o2, none⟩) ls.length c2) ∧ w'.cell? ⟨b1, o1 + k, none⟩ = some (.int .i64 x) ∧ w'.cell? ⟨b2, o2 + k, none⟩ = some (.int .i64 y)) (first | (go_keep; done) | (simp [*, go_sem]; done))
            (first
              | (have m_ := BB; clear m_; go_at_call 49; refine (CY.out _).mono ?_; rintro e_ w22 ⟨rfl, hb22⟩; obtain ⟨hc22, hf22⟩ := bcellW hb22; have hz22 := hb22.size; (try simp only [World.size_alloc, World.size_drew, size_set] at hz22); (try simp only [World.size_alloc, World.size_drew, size_set] at hc22); (try simp only [World.size_alloc, World.size_drew, size_set] at hf22); have ly22_0 : w.heap.size < w22.heap.size := (by omega); have ly22_1 : b1 < w22.heap.size := (by omega); have ly22_2 : b2 < w22.heap.size := (by omega); have BB := Lib.hid ((BB.out.trans (show Below (w.heap.size + 1) w21 _ from Below.mono (B := w21.heap.size) (by first | exact Below.refl _ _ | (go_grown; done) | exact bdrewN (Below.refl _ _) _) (by omega))).trans (hb22.mono (by first | omega | (simp; done) | (simp; omega)))); clear hb22)
              | (go_at_call 49; refine (CX.out _).mono ?_; rintro e_ w21 ⟨rfl, hb21⟩; obtain ⟨hc21, hf21⟩ := bcellW hb21; have hz21 := hb21.size; (try simp only [World.size_alloc, World.size_drew, size_set] at hz21); (try simp only [World.size_alloc, World.size_drew, size_set] at hc21); (try simp only [World.size_alloc, World.size_drew, size_set] at hf21); have ly21_0 : w.heap.size < w21.heap.size := (by omega); have ly21_1 : b1 < w21.heap.size := (by omega); have ly21_2 : b2 < w21.heap.size := (by omega); have BB := Lib.hid ((show Below (w.heap.size + 1) wr _ from (by first | exact Below.refl _ _ | (go_grown; done) | exact bdrewN (Below.refl _ _) _)).trans (hb21.mono (by first | omega | (simp; done) | (simp; omega)))); clear hb21))
          all_goals go_wp2
          all_goals go_roundw
          all_goals first | exact ⟨by have hb_ := HBr.out.trans BB.out; first | with_reducible exact hb_ | exact bdrewN hb_ _ | (go_grown; done), k + 1, by omega, by go_num, strp_cat HE.out⟩ | (simp [intOf]; omega)
        · have hkp : (0 : Int) < (k : Int) := by omega
          have HE := Lib.hid (pxJ_next (by omega) HX.out HY.out)
          have lO := pxJ_len GI.out (k := k) (by omega)
          have lX := itoa_len (n := x) (by omega) (by omega); have lY := itoa_len (n := y) (by omega) (by omega)
          obtain ⟨O, hO⟩ : ∃ O, O = Lib.join (pxL ts ls k) [44] := ⟨_, rfl⟩
          rw [← hO] at lO HE ⊢
          clear hO
          obtain ⟨TX, hTX⟩ : ∃ O, O = Lib.itoa x := ⟨_, rfl⟩
          obtain ⟨TY, hTY⟩ : ∃ O, O = Lib.itoa y := ⟨_, rfl⟩
          have CX := Lib.hid (show ∀ W, Calls Tryd.prog 49 #[.int .i64 x] W fun e_ w' => e_ = .returned (strL TX) ∧ Below W.heap.size W w' from fun W => by rw [hTX]; exact l01Dec_int x W (by omega) (by omega))
          have CY := Lib.hid (show ∀ W, Calls Tryd.prog 49 #[.int .i64 y] W fun e_ w' => e_ = .returned (strL TY) ∧ Below W.heap.size W w' from fun W => by rw [hTY]; exact l01Dec_int y W (by omega) (by omega))
          rw [← hTX] at lX HE; rw [← hTY] at lY HE; clear hTX hTY
          have z0_ : (9223372036854775807 < O.length + 1) = False := eq_false (by omega)
          have z1_ : (9223372036854775807 < O.length + 1 + TX.length) = False := eq_false (by omega)
          have z2_ : (9223372036854775807 < O.length + 1 + TX.length + 1) = False := eq_false (by omega)
          have z3_ : (9223372036854775807 < O.length + 1 + TX.length + 1 + TY.length) = False := eq_false (by omega)
          go_wp2_with fail
          go_region_held3 (fun w' => w'.cell? ⟨w.heap.size, 0, none⟩ = some (.slice (some ⟨b1, o1, none⟩) ts.length c1) ∧ w'.cell? ⟨w.heap.size, 1, none⟩ = some (.slice (some ⟨b2, o2, none⟩) ls.length c2) ∧ w'.cell? ⟨b1, o1 + k, none⟩ = some (.int .i64 x) ∧ w'.cell? ⟨b2, o2 + k, none⟩ = some (.int .i64 y)) (first | (go_keep; done) | (simp [*, go_sem]; done))
            (first
              | (have m_ := BB; clear m_; go_at_call 49; refine (CY.out _).mono ?_; rintro e_ w22 ⟨rfl, hb22⟩; obtain ⟨hc22, hf22⟩ := bcellW hb22; have hz22 := hb22.size; (try simp only [World.size_alloc, World.size_drew, size_set] at hz22); (try simp only [World.size_alloc, World.size_drew, size_set] at hc22); (try simp only [World.size_alloc, World.size_drew, size_set] at hf22); have ly22_0 : w.heap.size < w22.heap.size := (by omega); have ly22_1 : b1 < w22.heap.size := (by omega); have ly22_2 : b2 < w22.heap.size := (by omega); have BB := Lib.hid ((BB.out.trans (show Below (w.heap.size + 1) w21 _ from Below.mono (B := w21.heap.size) (by first | exact Below.refl _ _ | (go_grown; done) | exact bdrewN (Below.refl _ _) _) (by omega))).trans (hb22.mono (by first | omega | (simp; done) | (simp; omega)))); clear hb22)
              | (go_at_call 49; refine (CX.out _).mono ?_; rintro e_ w21 ⟨rfl, hb21⟩; obtain ⟨hc21, hf21⟩ := bcellW hb21; have hz21 := hb21.size; (try simp only [World.size_alloc, World.size_drew, size_set] at hz21); (try simp only [World.size_alloc, World.size_drew, size_set] at hc21); (try simp only [World.size_alloc, World.size_drew, size_set] at hf21); have ly21_0 : w.heap.size < w21.heap.size := (by omega); have ly21_1 : b1 < w21.heap.size := (by omega); have ly21_2 : b2 < w21.heap.size := (by omega); have BB := Lib.hid ((show Below (w.heap.size + 1) wr _ from (by first | exact Below.refl _ _ | (go_grown; done) | exact bdrewN (Below.refl _ _) _)).trans (hb21.mono (by first | omega | (simp; done) | (simp; omega)))); clear hb21))
          all_goals go_wp2
          all_goals go_roundw
          all_goals first | exact ⟨by have hb_ := HBr.out.trans BB.out; first | with_reducible exact hb_ | exact bdrewN hb_ _ | (go_grown; done), k + 1, by omega, by go_num, strp_cat1 HE.out⟩ | (simp [intOf]; omega)
      · obtain rfl : k = ts.length := by omega
        go_wp2
        go_ret
        exact ⟨congrArg (fun l => Ending.returned (strL l)) HS.out.symm, B1.trans (HBr.out.mono (by omega))⟩
  · have HS := Lib.hid (show pxS ts ls = [] by unfold pxS; rw [if_neg hp])
    go_enter Tryd.func42, Tryd.ntmps42
    go_wp2_with (go_at_call 44; refine (specIsProfile_any _ _ _ _ _ _ _ (H.out.1.below (B := w.heap.size) (by first | exact Below.refl _ _ | (go_grown; done) | exact bdrewN (by go_grown) _) (Nat.le_refl _)) (H.out.2.below (B := w.heap.size) (by first | exact Below.refl _ _ | (go_grown; done) | exact bdrewN (by go_grown) _) (Nat.le_refl _))).mono ?_; rintro e w1 ⟨rfl, hb1⟩; obtain ⟨B1, hz1, q1, s1, t1, x1, y1, z1⟩ := bkeep (w := w) [w.heap.size] (by first | (simp; done) | (simp; omega)) (by first | (go_grown; done) | exact bdrewN (by go_grown) _) hb1; (try simp at hz1); clear hb1)
    go_ret
    exact ⟨congrArg (fun l => Ending.returned (strL l)) HS.out.symm, B1⟩
end Go.Proofs.YtebdokpokbcgjaaDoor
