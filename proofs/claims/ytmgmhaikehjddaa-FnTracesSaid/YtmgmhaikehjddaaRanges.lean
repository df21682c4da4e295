/- RangesOf, by the program and by the reference. -/
import Derived.Test.YtmgmhaikehjddaaTraceRay
namespace Go.Proofs.Ytmgmhaikehjddaa
set_option linter.unusedSimpArgs false
set_option linter.unusedVariables false
open Go.RowKit

def rgCell (x : Rs) : List Value := ivCell (x.lo, x.hi)
/-- the ranges behind the first k events -/
def rgTo (ds ss : List Int) (src co hy : Int) (x : Rs) (k : Nat) : List (List Value) := (trS ds ss src co hy x k).map rgCell
theorem rgTo_len (ds ss : List Int) (src co hy : Int) (x : Rs) (k : Nat) : (rgTo ds ss src co hy x k).length = k := by rw [rgTo, List.length_map, trS_len]
theorem rgTo_next (ds ss : List Int) (src co hy : Int) (x : Rs) (k : Nat) : rgTo ds ss src co hy x (k + 1) = rgTo ds ss src co hy x k ++ [ivCell ((rsAt ds ss src co hy x (k + 1)).lo, (rsAt ds ss src co hy x (k + 1)).hi)] := by
  rw [rgTo, trS, List.map_append]; rfl
@[irreducible] def rgL (ds ss : List Int) (src co si hy n : Int) : List (Int × Int) := if trCo ds ss src co si hy n = 0 then (trS ds ss src co hy (rs0 src si) n.toNat).map (fun x => (x.lo, x.hi)) else []
theorem rgL_ok {ds ss : List Int} {src co si hy : Int} {m : Nat} (h : trCo ds ss src co si hy m = 0) : (rgL ds ss src co si hy m).map ivCell = rgTo ds ss src co hy (rs0 src si) m := by
  unfold rgL; rw [if_pos h, Int.toNat_natCast, rgTo, List.map_map]; rfl
theorem rgL_no {ds ss : List Int} {src co si hy n : Int} (h : trCo ds ss src co si hy n ≠ 0) : rgL ds ss src co si hy n = [] := by unfold rgL; rw [if_neg h]
theorem rgL_len0 {ds ss : List Int} {src co si hy : Int} {m : Nat} (h : trCo ds ss src co si hy m = 0) : (rgL ds ss src co si hy m).length = m := by
  unfold rgL; rw [if_pos h, Int.toNat_natCast, List.length_map, trS_len]
theorem rgL_len (ds ss : List Int) (src co si hy n : Int) : (rgL ds ss src co si hy n).length ≤ 100 := by
  by_cases h : trCo ds ss src co si hy n = 0
  · obtain ⟨-, m, rfl, hm, -⟩ := trCo_zero h
    rw [rgL_len0 h]; exact hm
  · rw [rgL_no h]; simp
/-- the cells of the k-th state -/
theorem state_cells {w : World} {A : Option Addr} {c m k : Nat} {ds ss : List Int} {src co hy : Int} {x : Rs} (h : KAt w A c 4 ((trS ds ss src co hy x m).map rsCell)) (hk : k < m) :
    ∃ b off, A = some ⟨b, off, none⟩ ∧ b < w.heap.size ∧ w.cell? ⟨b, off + k * 4, none⟩ = some (.int .i64 (rsAt ds ss src co hy x (k + 1)).k) ∧ w.cell? ⟨b, off + k * 4 + 1, none⟩ = some (.bool (rsAt ds ss src co hy x (k + 1)).d) ∧
      w.cell? ⟨b, off + k * 4 + 2, none⟩ = some (.int .i64 (rsAt ds ss src co hy x (k + 1)).lo) ∧ w.cell? ⟨b, off + k * 4 + 3, none⟩ = some (.int .i64 (rsAt ds ss src co hy x (k + 1)).hi) := by
  obtain ⟨b, off, e, rfl, hb, he, hc⟩ := h.at_ (i := k) (by rw [List.length_map, trS_len]; omega)
  rw [List.getElem?_map, trS_get _ _ _ _ _ _ _ _ hk] at he
  simp only [Option.map_some, Option.some.injEq] at he
  subst he
  exact ⟨b, off, rfl, hb, by have := hc 0 _ rfl; simpa using this, hc 1 _ rfl, hc 2 _ rfl, hc 3 _ rfl⟩

set_option maxHeartbeats 4000000 in
theorem specRangesOf_any (A1 A2 : Option Addr) (c1 c2 : Nat) (ds ss : List Int) (src co si hy n : Int) (w : World) (h : ProfAt w A1 c1 A2 c2 ds ss) :
    Calls Try.prog 69 #[profV A1 ds.length c1 A2 ss.length c2, .int .i64 src, dirV co si hy, .int .i64 n] w fun e w' =>
      (∃ A' c', e = .returned (.tuple #[.slice A' (rgL ds ss src co si hy n).length c', .int .i64 (trCo ds ss src co si hy n)]) ∧ ResK w' w.heap.size w'.heap.size A' c' 2 ((rgL ds ss src co si hy n).map ivCell)) ∧ Below w.heap.size w w' := by
  by_cases hc : trCo ds ss src co si hy n = 0
  · obtain ⟨r, m, rfl, hm, hr⟩ := trCo_zero hc
    have eL := rgL_ok hc; have lL := rgL_len0 hc
    rw [eL, lL, hc]
    have H := Lib.hid h; have R := Lib.hid r; have HR := Lib.hid hr; have LL := Lib.hid lL; clear h r hr hc eL lL
    have TRC : ∀ w, ProfAt w A1 c1 A2 c2 ds ss → _ := fun w h => specTrace_ok A1 A2 c1 c2 ds ss src co si hy m w h R.out hm HR.out
    have TR := Lib.hid TRC; clear TRC
    go_enter Try.func69, Try.ntmps69
    go_upto_region 5 with (go_at_call 150; refine (TR.out _ ⟨(H.out.1.below (B := w.heap.size) (by first | exact Below.refl _ _ | (go_grown; done) | exact bdrewN (by go_grown) _) (Nat.le_refl _)), (H.out.2.below (B := w.heap.size) (by first | exact Below.refl _ _ | (go_grown; done) | exact bdrewN (by go_grown) _) (Nat.le_refl _))⟩).mono ?_; rintro e w1 ⟨⟨As, cs, Ae, ce, rfl, R1, R2⟩, hb1⟩; clear R2; have V1 := Lib.hid (R1.mono (show w.heap.size ≤ _ by first | (simp; done) | (simp; omega)) (Nat.le_refl _)); clear R1; obtain ⟨B1, hz1, q1, s1, t1, x1, y1, z1⟩ := bkeep (w := w) [w.heap.size, w.heap.size + 1] (by first | (simp; done) | (simp; omega)) (by first | (go_grown; done) | exact bdrewN (by go_grown) _) hb1; (try simp at hz1); clear hb1)
    refine genS (S := fun w' => Below (w.heap.size) w w' ∧ w1.heap.size < w'.heap.size ∧ ResK w' w.heap.size w1.heap.size As cs 4 ((trS ds ss src co hy (rs0 src si) m).map rsCell) ∧ OwnK w' w1.heap.size 30 2 (.slice (some ⟨w1.heap.size, 0, none⟩) 0 0) []) ⟨(by first | with_reducible exact B1 | (go_grown; done) | with_reducible exact bdrewN B1 _ | (go_grown <;> first | with_reducible exact bdrewN B1 _ | with_reducible exact B1)), by first | omega | (simp; done) | (simp; omega), V1.out.below (B := w1.heap.size) (by go_grown) (Nat.le_refl _), OwnK.zero (Nat.le_refl _)⟩ ?_
    clear q1 s1 t1 x1 y1 V1
    rintro w2 ⟨B2, lt2_0, GS, GO⟩
    have z2 : w.heap.size ≤ w2.heap.size := B2.size
    have VS := Lib.hid GS; have VO := Lib.hid GO; have HB := Lib.hid B2; clear GS GO B2
    go_wp2
    go_loopw [13, 14] (fun v i wr => Below w1.heap.size w2 wr ∧ ∃ k : Nat, k ≤ m ∧ i = .int .i64 k ∧ OwnK wr w1.heap.size 30 2 v (rgTo ds ss src co hy (rs0 src si) k)) (fun _ i _ => m - (intOf i).toNat)
    case atStart => exact ⟨Below.refl _ _, 0, by omega, rfl, VO.out⟩
    case round =>
      obtain ⟨Br, k, hk, rfl, A', c', rfl, hc', hown, hall⟩ := hrel
      simp only [rgTo_len] at hown ⊢
      have HO := Lib.hid hown; have HA := Lib.hid hall; clear hown hall
      have sr := Br.size
      have HBr := Lib.hid Br
      have KS := Lib.hid (VS.out.below Br (Nat.le_refl _)).at
      clear Br
      by_cases hlt : k < m
      · obtain ⟨bs, os, rfl, hbs, cs0, cs1, cs2, cs3⟩ := state_cells KS.out hlt
        have lb1 : bs < wr.heap.size + 1 := by omega
        have lb2 : bs < wr.heap.size + 1 + 1 := by omega
        go_wp2_with (at_builtin; refine appG rfl _ _ 81 rfl w1.heap.size 30 (.agg #[.int .i64 0, .int .i64 0]) 2 16 Try.underlying81 infoIv rfl (by omega) (ivCell ((rsAt ds ss src co hy (rs0 src si) (k + 1)).lo, (rsAt ds ss src co hy (rs0 src si) (k + 1)).hi)) rfl (by intro u hu; simp [ivCell] at hu; rcases hu with rfl | rfl <;> rfl) _ _ _ rfl _ rfl (own_keep HO.out (by repeat' (first | with_reducible exact Keep.refl _ _ _ | with_reducible refine Keep.setB ?_ ?_ _ | with_reducible refine Keep.alloc ?_ ?_ _ | with_reducible refine Keep.drew ?_ | omega | (simp; done) | (simp; omega)))) ?_ ?_ ?_ ?_ ?_; (focus (intro j u hj; match j, hj with | 0, hj => (simp [ivCell] at hj; subst hj; simp [*, go_sem]) | 1, hj => (simp [ivCell] at hj; subst hj; simp [*, go_sem]) | j + 2, hj => simp [ivCell] at hj)); (focus (unfold maxLen; omega)); (focus omega); (focus (first | omega | (simp; omega))); intro v4 w4 hown4 hg4 _; have C4 := Below.grow (B := w1.heap.size) (w0 := w2) (by have hb_ := HBr.out; go_grown) hg4 (fun b hb => by have := HO.out.lt b hb; omega) (by first | omega | (simp; omega)); clear hg4; obtain ⟨A14, c14, rfl, hc14⟩ := owns_form hown4; have O4 := Lib.hid hown4; clear hown4)
        go_roundw
        case rel => exact ⟨C4, k + 1, by omega, by first | done | go_num | rfl, OwnK.next (els := rgTo ds ss src co hy (rs0 src si) k) (rgTo_next _ _ _ _ _ _ _) (by rw [rgTo_len]; exact O4.out) HA.out rfl⟩
        case measure => simp [intOf]; omega
      · obtain rfl : k = m := by omega
        go_wp2
        go_ret2
        refine ⟨⟨A', c', rfl, ?_⟩, ?_⟩
        · exact ((OwnK.res (n := k) (els := rgTo ds ss src co hy (rs0 src si) k) ⟨A', c', by rw [rgTo_len], hc', by rw [rgTo_len]; exact HO.out, HA.out⟩).2).mono (by omega) (Nat.le_refl _)
        · exact HB.out.trans (show Below w.heap.size w2 wr from HBr.out.mono (by omega))
  · have eL := rgL_no hc
    have hE2 : (trCo ds ss src co si hy n != 0) = true := by simpa using hc
    have H := Lib.hid h; have HC := Lib.hid hc; have EL := Lib.hid eL; clear h hc eL
    go_enter Try.func69, Try.ntmps69
    go_wp2_with (go_at_call 150; refine (specTrace_no _ _ _ _ _ _ _ _ _ _ _ _ ⟨(H.out.1.below (B := w.heap.size) (by first | exact Below.refl _ _ | (go_grown; done) | exact bdrewN (by go_grown) _) (Nat.le_refl _)), (H.out.2.below (B := w.heap.size) (by first | exact Below.refl _ _ | (go_grown; done) | exact bdrewN (by go_grown) _) (Nat.le_refl _))⟩ HC.out).mono ?_; rintro e w1 ⟨rfl, hb1⟩; obtain ⟨B1, hz1, q1, s1, t1, x1, y1, z1⟩ := bkeep (w := w) [w.heap.size, w.heap.size + 1] (by first | (simp; done) | (simp; omega)) (by first | (go_grown; done) | exact bdrewN (by go_grown) _) hb1; (try simp at hz1); clear hb1)
    go_ret2
    refine ⟨⟨none, 0, by rw [EL.out]; rfl, by rw [EL.out]; exact ResK.nil _ _ _ _ _ _ (by omega)⟩, ?_⟩
    exact (by first | with_reducible exact B1 | (go_grown; done) | with_reducible exact bdrewN B1 _ | (go_grown <;> first | with_reducible exact bdrewN B1 _ | with_reducible exact B1))
set_option maxHeartbeats 4000000 in
theorem implRangesOf_any (A1 A2 : Option Addr) (c1 c2 : Nat) (ds ss : List Int) (src co si hy n : Int) (w : World) (h : ProfAt w A1 c1 A2 c2 ds ss) :
    Calls Try.prog 68 #[profV A1 ds.length c1 A2 ss.length c2, .int .i64 src, dirV co si hy, .int .i64 n] w fun e w' =>
      (∃ A' c', e = .returned (.tuple #[.slice A' (rgL ds ss src co si hy n).length c', .int .i64 (trCo ds ss src co si hy n)]) ∧ ResK w' w.heap.size w'.heap.size A' c' 2 ((rgL ds ss src co si hy n).map ivCell)) ∧ Below w.heap.size w w' := by
  by_cases hc : trCo ds ss src co si hy n = 0
  · obtain ⟨r, m, rfl, hm, hr⟩ := trCo_zero hc
    have eL := rgL_ok hc; have lL := rgL_len0 hc
    rw [eL, lL, hc]
    have H := Lib.hid h; have R := Lib.hid r; have HR := Lib.hid hr; have LL := Lib.hid lL; clear h r hr hc eL lL
    have TRC : ∀ w, ProfAt w A1 c1 A2 c2 ds ss → _ := fun w h => traceOf_ok A1 A2 c1 c2 ds ss src co si hy m w h R.out hm HR.out
    have TR := Lib.hid TRC; clear TRC
    go_enter Try.func68, Try.ntmps68
    go_upto_region 2 with (go_at_call 152; refine (TR.out _ ⟨(H.out.1.below (B := w.heap.size) (by first | exact Below.refl _ _ | (go_grown; done) | exact bdrewN (by go_grown) _) (Nat.le_refl _)), (H.out.2.below (B := w.heap.size) (by first | exact Below.refl _ _ | (go_grown; done) | exact bdrewN (by go_grown) _) (Nat.le_refl _))⟩).mono ?_; rintro e w1 ⟨⟨Ae, ce, As, cs, Ad, cd, rfl, R1, R2, R3⟩, hb1⟩; clear R1 R3; have V1 := Lib.hid R2.at; clear R2; obtain ⟨B1, hz1, q1, s1, t1, x1, y1, z1⟩ := bkeep (w := w) [w.heap.size, w.heap.size + 1] (by first | (simp; done) | (simp; omega)) (by first | (go_grown; done) | exact bdrewN (by go_grown) _) hb1; (try simp at hz1); clear hb1)
    refine genS (S := fun w' => Below (w.heap.size) w w' ∧ w1.heap.size + 1 < w'.heap.size ∧ w'.cell? ⟨w1.heap.size + 1, 0, none⟩ = some (.slice Ae m ce) ∧ w'.cell? ⟨w1.heap.size + 1, 1, none⟩ = some (.slice As m cs) ∧ w'.cell? ⟨w1.heap.size + 1, 2, none⟩ = some (.slice Ad m cd) ∧ KAt w' As cs 4 ((trS ds ss src co hy (rs0 src si) m).map rsCell)) ⟨(by first | with_reducible exact B1 | (go_grown; done) | with_reducible exact bdrewN B1 _ | (go_grown <;> first | with_reducible exact bdrewN B1 _ | with_reducible exact B1)), by first | omega | (simp; done) | (simp; omega), by simp [*, go_sem], by simp [*, go_sem], by simp [*, go_sem], V1.out.below (B := w1.heap.size) (by go_grown) (Nat.le_refl _)⟩ ?_
    clear q1 s1 t1 x1 y1 V1
    rintro w2 ⟨B2, lt2_0, c2_0, c2_1, c2_2, GS⟩
    have z2 : w.heap.size ≤ w2.heap.size := B2.size
    have VS := Lib.hid GS; have HB := Lib.hid B2; clear GS B2
    go_wp2
    go_loopw [13, 28] (fun v i wr => Below w2.heap.size w2 wr ∧ ∃ k : Nat, k ≤ m ∧ i = .int .i64 k ∧ OwnK wr w2.heap.size 30 2 v (rgTo ds ss src co hy (rs0 src si) k)) (fun _ i _ => m - (intOf i).toNat)
    case atStart => exact ⟨Below.refl _ _, 0, by omega, rfl, OwnK.none_ _ _ _ _⟩
    case round =>
      obtain ⟨Br, k, hk, rfl, A', c', rfl, hc', hown, hall⟩ := hrel
      simp only [rgTo_len] at hown ⊢
      have HO := Lib.hid hown; have HA := Lib.hid hall; clear hown hall
      have sr := Br.size
      have HBr := Lib.hid Br
      have KS := Lib.hid (VS.out.below Br (Nat.le_refl _))
      clear Br
      by_cases hlt : k < m
      · obtain ⟨bs, os, rfl, hbs, cs0, cs1, cs2, cs3⟩ := state_cells KS.out hlt
        have lb1 : bs < wr.heap.size + 1 := by omega
        have lb2 : bs < wr.heap.size + 1 + 1 := by omega
        go_wp2_with (at_builtin; refine appG rfl _ _ 81 rfl w2.heap.size 30 (.agg #[.int .i64 0, .int .i64 0]) 2 16 Try.underlying81 infoIv rfl (by omega) (ivCell ((rsAt ds ss src co hy (rs0 src si) (k + 1)).lo, (rsAt ds ss src co hy (rs0 src si) (k + 1)).hi)) rfl (by intro u hu; simp [ivCell] at hu; rcases hu with rfl | rfl <;> rfl) _ _ _ rfl _ rfl (own_keep HO.out (by repeat' (first | with_reducible exact Keep.refl _ _ _ | with_reducible refine Keep.setB ?_ ?_ _ | with_reducible refine Keep.alloc ?_ ?_ _ | with_reducible refine Keep.drew ?_ | omega | (simp; done) | (simp; omega)))) ?_ ?_ ?_ ?_ ?_; (focus (intro j u hj; match j, hj with | 0, hj => (simp [ivCell] at hj; subst hj; simp [*, go_sem]) | 1, hj => (simp [ivCell] at hj; subst hj; simp [*, go_sem]) | j + 2, hj => simp [ivCell] at hj)); (focus (unfold maxLen; omega)); (focus omega); (focus (first | omega | (simp; omega))); intro v4 w4 hown4 hg4 _; have C4 := Below.grow (B := w2.heap.size) (w0 := w2) (by have hb_ := HBr.out; go_grown) hg4 (fun b hb => by have := HO.out.lt b hb; omega) (by first | omega | (simp; omega)); clear hg4; obtain ⟨A14, c14, rfl, hc14⟩ := owns_form hown4; have O4 := Lib.hid hown4; clear hown4)
        go_roundw
        case rel => exact ⟨C4, k + 1, by omega, by first | done | go_num | rfl, OwnK.next (els := rgTo ds ss src co hy (rs0 src si) k) (rgTo_next _ _ _ _ _ _ _) (by rw [rgTo_len]; exact O4.out) HA.out rfl⟩
        case measure => simp [intOf]; omega
      · obtain rfl : k = m := by omega
        go_wp2
        go_ret2
        refine ⟨⟨A', c', rfl, ?_⟩, ?_⟩
        · exact ((OwnK.res (n := k) (els := rgTo ds ss src co hy (rs0 src si) k) ⟨A', c', by rw [rgTo_len], hc', by rw [rgTo_len]; exact HO.out, HA.out⟩).2).mono (by omega) (Nat.le_refl _)
        · exact HB.out.trans (show Below w.heap.size w2 wr from HBr.out.mono (by omega))
  · have eL := rgL_no hc
    have H := Lib.hid h; have HC := Lib.hid hc; have EL := Lib.hid eL; clear h hc eL
    go_enter Try.func68, Try.ntmps68
    go_upto_region 2 with (go_at_call 152; refine (traceOf_no _ _ _ _ _ _ _ _ _ _ _ _ ⟨(H.out.1.below (B := w.heap.size) (by first | exact Below.refl _ _ | (go_grown; done) | exact bdrewN (by go_grown) _) (Nat.le_refl _)), (H.out.2.below (B := w.heap.size) (by first | exact Below.refl _ _ | (go_grown; done) | exact bdrewN (by go_grown) _) (Nat.le_refl _))⟩ HC.out).mono ?_; rintro e w1 ⟨⟨r0, r1, r2, r3, r4, r5, r6, r7, r8, r9, rfl⟩, hb1⟩; obtain ⟨B1, hz1, q1, s1, t1, x1, y1, z1⟩ := bkeep (w := w) [w.heap.size, w.heap.size + 1] (by first | (simp; done) | (simp; omega)) (by first | (go_grown; done) | exact bdrewN (by go_grown) _) hb1; (try simp at hz1); clear hb1)
    refine genS (S := fun w' => Below (w.heap.size) w w' ∧ w1.heap.size + 1 < w'.heap.size ∧ w'.cell? ⟨w1.heap.size + 1, 0, none⟩ = some (.slice none 0 0) ∧ w'.cell? ⟨w1.heap.size + 1, 1, none⟩ = some (.slice none 0 0) ∧ w'.cell? ⟨w1.heap.size + 1, 2, none⟩ = some (.slice none 0 0)) ⟨(by first | with_reducible exact B1 | (go_grown; done) | with_reducible exact bdrewN B1 _ | (go_grown <;> first | with_reducible exact bdrewN B1 _ | with_reducible exact B1)), by first | omega | (simp; done) | (simp; omega), by simp [*, go_sem], by simp [*, go_sem], by simp [*, go_sem]⟩ ?_
    clear q1 s1 t1 x1 y1
    rintro w2 ⟨B2, lt2_0, c2_0, c2_1, c2_2⟩
    have z2 : w.heap.size ≤ w2.heap.size := B2.size
    go_wp2
    go_loopw [13, 28] (fun v i wr => wr = w2 ∧ v = .slice none 0 0 ∧ i = .int .i64 0) (fun _ i _ => 0)
    case atStart => exact ⟨rfl, rfl, rfl⟩
    case round =>
      obtain ⟨rfl, rfl, rfl⟩ := hrel
      go_wp2
      go_ret2
      refine ⟨⟨none, 0, by rw [EL.out]; rfl, by rw [EL.out]; exact ResK.nil _ _ _ _ _ _ (by omega)⟩, B2⟩
end Go.Proofs.Ytmgmhaikehjddaa
