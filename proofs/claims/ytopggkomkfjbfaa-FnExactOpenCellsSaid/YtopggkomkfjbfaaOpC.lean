/- The open cells of a fan, by the program and by the reference. -/
import Derived.Test.YtopggkomkfjbfaaFanV
namespace Go.Proofs.Ytopggkomkfjbfaa
set_option linter.unusedSimpArgs false
set_option linter.unusedVariables false
open Go.RowKit

/-- the first numbers of the cells that are not free -/
def ocTo (L : List Int) (lo : Int) : Nat → List Int
  | 0 => []
  | k + 1 => if spd L k = 0 then ocTo L lo k else ocTo L lo k ++ [lo + k]
theorem ocTo_len (L : List Int) (lo : Int) : ∀ k, (ocTo L lo k).length ≤ k := by
  intro k
  induction k with
  | zero => simp [ocTo]
  | succ k ih => rw [ocTo]; split
                 · omega
                 · rw [List.length_append]; simp; exact ih
theorem oc_no {L : List Int} {lo : Int} {k : Nat} (h : spd L k = 0) : ocTo L lo (k + 1) = ocTo L lo k := by rw [ocTo, if_pos h]
theorem oc_yes {L : List Int} {lo : Int} {k : Nat} (h : spd L k ≠ 0) : ocTo L lo (k + 1) = ocTo L lo k ++ [lo + k] := by rw [ocTo, if_neg h]
@[irreducible] def ocL (ds ss : List Int) (src n lo hi : Int) (dn : Bool) (st knot dist : Int) : List Int := ocTo (fvL ds ss src n lo hi dn st knot dist) lo (fvL ds ss src n lo hi dn st knot dist).length
theorem ocL_len (ds ss : List Int) (src n lo hi : Int) (dn : Bool) (st knot dist : Int) : (ocL ds ss src n lo hi dn st knot dist).length ≤ 31 := by
  unfold ocL
  have a := ocTo_len (fvL ds ss src n lo hi dn st knot dist) lo (fvL ds ss src n lo hi dn st knot dist).length
  have b := fvL_len ds ss src n lo hi dn st knot dist
  omega
theorem oc_is (ds ss : List Int) (src n lo hi : Int) (dn : Bool) (st knot dist : Int) : ocL ds ss src n lo hi dn st knot dist = ocTo (fvL ds ss src n lo hi dn st knot dist) lo (fvL ds ss src n lo hi dn st knot dist).length := by unfold ocL; rfl
theorem fv_nil {ds ss : List Int} {src n lo hi : Int} {dn : Bool} {st knot dist : Int} (h : fvE ds ss src n lo hi st knot dist ≠ 0) : fvL ds ss src n lo hi dn st knot dist = [] := by unfold fvL; rw [if_neg h]
theorem fv_lo {ds ss : List Int} {src n lo hi : Int} {dn : Bool} {st knot dist : Int} (h : fvL ds ss src n lo hi dn st knot dist ≠ []) : 1 ≤ lo ∧ lo ≤ 31 := by
  by_cases hc : fvE ds ss src n lo hi st knot dist = 0
  · unfold fvE at hc
    split at hc
    · rename_i h2
      obtain ⟨-, hf, -⟩ := fa_zero h2
      have k := fan_ok hf
      exact ⟨k.l0, by have := k.n1; have := k.l1; have := k.h1; omega⟩
    · rename_i h2; exact absurd hc h2
  · exact absurd (fv_nil hc) h
set_option maxRecDepth 4000 in
set_option maxHeartbeats 4000000 in
theorem specOpen9_any (A1 A2 : Option Addr) (c1 c2 : Nat) (ds ss : List Int) (src n lo hi : Int) (dn : Bool) (st knot dist : Int) (w : World) (h : ProfAt w A1 c1 A2 c2 ds ss) :
    Calls Try.prog 35 #[profV A1 ds.length c1 A2 ss.length c2, .int .i64 src, .int .i64 n, .int .i64 lo, .int .i64 hi, .bool dn, .int .i64 st, .int .i64 knot, .int .i64 dist] w fun e w' => (∃ A' c', e = .returned (.tuple #[.slice A' (ocL ds ss src n lo hi dn st knot dist).length c', .int .i64 (fvE ds ss src n lo hi st knot dist)]) ∧ ResI w' w.heap.size w'.heap.size A' c' (ocL ds ss src n lo hi dn st knot dist)) ∧ Below w.heap.size w w' := by
  have H := Lib.hid h; clear h
  have OC := Lib.hid (oc_is ds ss src n lo hi dn st knot dist)
  have hlen := fvL_len ds ss src n lo hi dn st knot dist
  have LO := Lib.hid (fun h => fv_lo (ds := ds) (ss := ss) (src := src) (n := n) (lo := lo) (hi := hi) (dn := dn) (st := st) (knot := knot) (dist := dist) h)
  have NI := Lib.hid (fun h => fv_nil (ds := ds) (ss := ss) (src := src) (n := n) (lo := lo) (hi := hi) (dn := dn) (st := st) (knot := knot) (dist := dist) h)
  have FV := Lib.hid (fun w h => specFan_any A1 A2 c1 c2 ds ss src n lo hi dn st knot dist w h)
  obtain ⟨L, hL⟩ : ∃ x, fvL ds ss src n lo hi dn st knot dist = x := ⟨_, rfl⟩
  obtain ⟨E, hE⟩ : ∃ x, fvE ds ss src n lo hi st knot dist = x := ⟨_, rfl⟩
  rw [hL] at OC hlen LO NI FV; rw [hE] at FV NI ⊢
  clear hL hE
  by_cases hc : E = 0
  · subst hc
    clear NI
    go_enter Try.func35, Try.ntmps35
    go_wp2_with fail
    refine (FV.out _ (H.out.below (B := w.heap.size) (by first | exact Below.refl _ _ | (go_grown; done) | exact bdrewN (by go_grown) _) (Nat.le_refl _))).mono ?_
    rintro e w1 ⟨⟨Av, cv, rfl, RC⟩, hb1⟩
    have VC := Lib.hid (RC.mono (show w.heap.size ≤ _ by first | (simp; done) | (simp; omega)) (Nat.le_refl _)); clear RC
    obtain ⟨B1, hz1, q1, s1, t1, x1, y1, z1⟩ := bkeep (w := w) [w.heap.size] (by first | (simp; done) | (simp; omega)) (by first | (go_grown; done) | exact bdrewN (by go_grown) _) hb1; (try simp at hz1); clear hb1
    go_upto_region 5 with fail
    refine genS (S := fun w' => Below w.heap.size w w' ∧ w1.heap.size ≤ w'.heap.size ∧ ResI w' w.heap.size w1.heap.size Av cv L ∧ OwnI w' w1.heap.size (.slice (some ⟨w1.heap.size, 0, none⟩) 0 0) []) ⟨(by first | with_reducible exact B1 | (go_grown; done)), by first | omega | (simp; done) | (simp; omega), (VC.out.below (B := w1.heap.size) (by first | exact Below.refl _ _ | (go_grown; done)) (Nat.le_refl _)), OwnI.zero (Nat.le_refl _)⟩ ?_
    rintro w4 ⟨B4, sz4, GC, GO⟩
    have VC := Lib.hid GC; have VO := Lib.hid GO; have HB := Lib.hid B4; clear GC GO B4 B1 q1 s1 t1 x1 y1 z1
    have sz0 : w.heap.size ≤ w1.heap.size := by omega
    go_wp2
    go_loopw [22, 23] (fun v i wr => Below w1.heap.size w4 wr ∧ ∃ k : Nat, k ≤ L.length ∧ i = .int .i64 k ∧ OwnI wr w1.heap.size v (ocTo L lo k)) (fun _ i _ => L.length - (intOf i).toNat)
    case atStart => exact ⟨Below.refl _ _, 0, by omega, rfl, VO.out⟩
    case round =>
      obtain ⟨Br, k, hk, rfl, A', c', rfl, hc', hown⟩ := hrel
      have HO := Lib.hid hown; clear hown
      have hln := ocTo_len L lo k
      have sr := Br.size
      have HBr := Lib.hid Br
      have KC := Lib.hid (VC.out.below Br (by omega)).at
      clear Br
      by_cases hlt : k < L.length
      · obtain ⟨b, off, x, rfl, hb, hx, cx⟩ := KC.out.at_ hlt
        have hsp := spd_at hx
        have hlo := LO.out (fun e => by rw [e] at hlt; simp at hlt)
        have gk : (k : Int) < L.length := by omega
        have gk0 : (0 : Int) ≤ k := by omega
        clear hx
        by_cases h0 : x = 0
        · have HK := Lib.hid (oc_no (lo := lo) (hsp.trans h0)); clear hsp
          subst h0
          go_wp2
          go_roundw
          case rel => exact ⟨by have hb_ := HBr.out; first | with_reducible exact hb_ | (go_grown; done), k + 1, by omega, by first | done | go_num | rfl, by rw [HK.out]; exact OwnI.below ⟨_, _, rfl, hc', HO.out⟩ (by first | exact Below.refl _ _ | (go_grown; done)) (Nat.le_refl _)⟩
          case measure => simp [intOf]; omega
        · have HK := Lib.hid (oc_yes (lo := lo) (show spd L k ≠ 0 by rw [hsp]; exact h0)); clear hsp
          have h2 : (x != 0) = true := by simpa using h0
          clear h0
          go_wp2_with (at_builtin; refine appG rfl _ _ 22 rfl w1.heap.size 2 (.int .i64 0) 1 8 Try.underlying22 infoInt2 rfl (by omega) [.int .i64 (lo + k)] rfl (by intro u hu; simp at hu; subst hu; rfl) _ _ _ rfl _ rfl (own_keep HO.out (by repeat' (first | with_reducible exact Keep.refl _ _ _ | with_reducible refine Keep.setB ?_ ?_ _ | with_reducible refine Keep.alloc ?_ ?_ _ | with_reducible refine Keep.drew ?_ | omega | (simp; done) | (simp; omega)))) ?_ ?_ ?_ ?_ ?_; (focus (intro j u hj; match j, hj with | 0, hj => (simp at hj; subst hj; simp [*, go_sem]) | j + 1, hj => simp at hj)); (focus (unfold maxLen; omega)); (focus omega); (focus (first | omega | (simp; omega))); intro v9 w9 hown9 hg9 _; have C9 := Below.grow (B := w1.heap.size) (w0 := w4) (by have hb_ := HBr.out; first | with_reducible exact hb_ | (go_grown; done)) hg9 (fun b hb => by have := HO.out.lt b hb; omega) (by first | omega | (simp; omega)); clear hg9; obtain ⟨A14, c14, rfl, hc14⟩ := owns_form hown9; have O9 := Lib.hid hown9; clear hown9)
          go_roundw
          case rel => exact ⟨C9, k + 1, by omega, by first | done | go_num | rfl, OwnI.next HK.out O9.out⟩
          case measure => simp [intOf]; omega
      · obtain rfl : k = L.length := by omega
        go_wp2
        go_ret2
        exact ⟨⟨A', c', by rw [OC.out] <;> rfl, by rw [OC.out]; exact (OwnI.res ⟨_, _, rfl, hc', HO.out⟩).mono sz0 (Nat.le_refl _)⟩, HB.out.trans (HBr.out.mono sz0)⟩
  · have hL := NI.out hc
    subst hL
    have hE2 : (E != 0) = true := by simpa using hc
    go_enter Try.func35, Try.ntmps35
    go_wp2_with fail
    refine (FV.out _ (H.out.below (B := w.heap.size) (by first | exact Below.refl _ _ | (go_grown; done) | exact bdrewN (by go_grown) _) (Nat.le_refl _))).mono ?_
    rintro e w1 ⟨⟨Av, cv, rfl, -⟩, hb1⟩
    obtain ⟨B1, hz1, q1, s1, t1, x1, y1, z1⟩ := bkeep (w := w) [w.heap.size] (by first | (simp; done) | (simp; omega)) (by first | (go_grown; done) | exact bdrewN (by go_grown) _) hb1; (try simp at hz1); clear hb1
    go_wp2
    go_ret2
    exact ⟨⟨none, 0, by rw [OC.out] <;> rfl, by rw [OC.out]; exact ResI.nil _ _ _ _ _ (by omega)⟩, B1⟩
set_option maxRecDepth 4000 in
set_option maxHeartbeats 4000000 in
theorem implOpen9_any (A1 A2 : Option Addr) (c1 c2 : Nat) (ds ss : List Int) (src n lo hi : Int) (dn : Bool) (st knot dist : Int) (w : World) (h : ProfAt w A1 c1 A2 c2 ds ss) :
    Calls Try.prog 36 #[profV A1 ds.length c1 A2 ss.length c2, .int .i64 src, .int .i64 n, .int .i64 lo, .int .i64 hi, .bool dn, .int .i64 st, .int .i64 knot, .int .i64 dist] w fun e w' => (∃ A' c', e = .returned (.tuple #[.slice A' (ocL ds ss src n lo hi dn st knot dist).length c', .int .i64 (fvE ds ss src n lo hi st knot dist)]) ∧ ResI w' w.heap.size w'.heap.size A' c' (ocL ds ss src n lo hi dn st knot dist)) ∧ Below w.heap.size w w' := by
  have H := Lib.hid h; clear h
  have OC := Lib.hid (oc_is ds ss src n lo hi dn st knot dist)
  have hlen := fvL_len ds ss src n lo hi dn st knot dist
  have LO := Lib.hid (fun h => fv_lo (ds := ds) (ss := ss) (src := src) (n := n) (lo := lo) (hi := hi) (dn := dn) (st := st) (knot := knot) (dist := dist) h)
  have NI := Lib.hid (fun h => fv_nil (ds := ds) (ss := ss) (src := src) (n := n) (lo := lo) (hi := hi) (dn := dn) (st := st) (knot := knot) (dist := dist) h)
  have FV := Lib.hid (fun w h => implFan_any A1 A2 c1 c2 ds ss src n lo hi dn st knot dist w h)
  obtain ⟨L, hL⟩ : ∃ x, fvL ds ss src n lo hi dn st knot dist = x := ⟨_, rfl⟩
  obtain ⟨E, hE⟩ : ∃ x, fvE ds ss src n lo hi st knot dist = x := ⟨_, rfl⟩
  rw [hL] at OC hlen LO NI FV; rw [hE] at FV NI ⊢
  clear hL hE
  by_cases hc : E = 0
  · subst hc
    clear NI
    go_enter Try.func36, Try.ntmps36
    go_wp2_with fail
    refine (FV.out _ (H.out.below (B := w.heap.size) (by first | exact Below.refl _ _ | (go_grown; done) | exact bdrewN (by go_grown) _) (Nat.le_refl _))).mono ?_
    rintro e w1 ⟨⟨Av, cv, rfl, RC⟩, hb1⟩
    have VC := Lib.hid (RC.mono (show w.heap.size ≤ _ by first | (simp; done) | (simp; omega)) (Nat.le_refl _)); clear RC
    obtain ⟨B1, hz1, q1, s1, t1, x1, y1, z1⟩ := bkeep (w := w) [w.heap.size] (by first | (simp; done) | (simp; omega)) (by first | (go_grown; done) | exact bdrewN (by go_grown) _) hb1; (try simp at hz1); clear hb1
    refine genS (S := fun w' => Below w.heap.size w w' ∧ w1.heap.size ≤ w'.heap.size ∧ ResI w' w.heap.size w1.heap.size Av cv L) ⟨B1, Nat.le_refl _, VC.out⟩ ?_
    rintro w4 ⟨B4, sz4, GC⟩
    have VC := Lib.hid GC; have HB := Lib.hid B4; clear GC B4 B1 q1 s1 t1 x1 y1 z1
    have sz0 : w.heap.size ≤ w1.heap.size := by omega
    go_wp2
    go_loopw [22, 40] (fun v i wr => Below w1.heap.size w4 wr ∧ ∃ k : Nat, k ≤ L.length ∧ i = .int .i64 k ∧ OwnI wr w1.heap.size v (ocTo L lo k)) (fun _ i _ => L.length - (intOf i).toNat)
    case atStart => exact ⟨Below.refl _ _, 0, by omega, rfl, OwnI.none_ _ _⟩
    case round =>
      obtain ⟨Br, k, hk, rfl, A', c', rfl, hc', hown⟩ := hrel
      have HO := Lib.hid hown; clear hown
      have hln := ocTo_len L lo k
      have sr := Br.size
      have HBr := Lib.hid Br
      have KC := Lib.hid (VC.out.below Br (by omega)).at
      clear Br
      by_cases hlt : k < L.length
      · obtain ⟨b, off, x, rfl, hb, hx, cx⟩ := KC.out.at_ hlt
        have hsp := spd_at hx
        have hlo := LO.out (fun e => by rw [e] at hlt; simp at hlt)
        have gk : (k : Int) < L.length := by omega
        have gk0 : (0 : Int) ≤ k := by omega
        clear hx
        by_cases h0 : x = 0
        · have HK := Lib.hid (oc_no (lo := lo) (hsp.trans h0)); clear hsp
          subst h0
          go_wp2
          go_roundw
          case rel => exact ⟨by have hb_ := HBr.out; first | with_reducible exact hb_ | (go_grown; done), k + 1, by omega, by first | done | go_num | rfl, by rw [HK.out]; exact OwnI.below ⟨_, _, rfl, hc', HO.out⟩ (by first | exact Below.refl _ _ | (go_grown; done)) (Nat.le_refl _)⟩
          case measure => simp [intOf]; omega
        · have HK := Lib.hid (oc_yes (lo := lo) (show spd L k ≠ 0 by rw [hsp]; exact h0)); clear hsp
          have h2 : (x != 0) = true := by simpa using h0
          clear h0
          go_wp2_with (at_builtin; refine appG rfl _ _ 22 rfl w1.heap.size 2 (.int .i64 0) 1 8 Try.underlying22 infoInt2 rfl (by omega) [.int .i64 (lo + k)] rfl (by intro u hu; simp at hu; subst hu; rfl) _ _ _ rfl _ rfl (own_keep HO.out (by repeat' (first | with_reducible exact Keep.refl _ _ _ | with_reducible refine Keep.setB ?_ ?_ _ | with_reducible refine Keep.alloc ?_ ?_ _ | with_reducible refine Keep.drew ?_ | omega | (simp; done) | (simp; omega)))) ?_ ?_ ?_ ?_ ?_; (focus (intro j u hj; match j, hj with | 0, hj => (simp at hj; subst hj; simp [*, go_sem]) | j + 1, hj => simp at hj)); (focus (unfold maxLen; omega)); (focus omega); (focus (first | omega | (simp; omega))); intro v9 w9 hown9 hg9 _; have C9 := Below.grow (B := w1.heap.size) (w0 := w4) (by have hb_ := HBr.out; first | with_reducible exact hb_ | (go_grown; done)) hg9 (fun b hb => by have := HO.out.lt b hb; omega) (by first | omega | (simp; omega)); clear hg9; obtain ⟨A14, c14, rfl, hc14⟩ := owns_form hown9; have O9 := Lib.hid hown9; clear hown9)
          go_roundw
          case rel => exact ⟨C9, k + 1, by omega, by first | done | go_num | rfl, OwnI.next HK.out O9.out⟩
          case measure => simp [intOf]; omega
      · obtain rfl : k = L.length := by omega
        go_wp2
        go_ret2
        exact ⟨⟨A', c', by rw [OC.out] <;> rfl, by rw [OC.out]; exact (OwnI.res ⟨_, _, rfl, hc', HO.out⟩).mono sz0 (Nat.le_refl _)⟩, HB.out.trans (HBr.out.mono sz0)⟩
  · have hL := NI.out hc
    subst hL
    have hE2 : (E != 0) = true := by simpa using hc
    go_enter Try.func36, Try.ntmps36
    go_wp2_with fail
    refine (FV.out _ (H.out.below (B := w.heap.size) (by first | exact Below.refl _ _ | (go_grown; done) | exact bdrewN (by go_grown) _) (Nat.le_refl _))).mono ?_
    rintro e w1 ⟨⟨Av, cv, rfl, -⟩, hb1⟩
    obtain ⟨B1, hz1, q1, s1, t1, x1, y1, z1⟩ := bkeep (w := w) [w.heap.size] (by first | (simp; done) | (simp; omega)) (by first | (go_grown; done) | exact bdrewN (by go_grown) _) hb1; (try simp at hz1); clear hb1
    go_wp2
    go_loopw [22, 40] (fun v i wr => wr = w1 ∧ v = .slice none 0 0 ∧ i = .int .i64 0) (fun _ i _ => 0)
    case atStart => exact ⟨rfl, rfl, rfl⟩
    case round =>
      obtain ⟨rfl, rfl, rfl⟩ := hrel
      go_wp2
      go_ret2
      exact ⟨⟨none, 0, by rw [OC.out] <;> rfl, by rw [OC.out]; exact ResI.nil _ _ _ _ _ (by omega)⟩, B1⟩
end Go.Proofs.Ytopggkomkfjbfaa
