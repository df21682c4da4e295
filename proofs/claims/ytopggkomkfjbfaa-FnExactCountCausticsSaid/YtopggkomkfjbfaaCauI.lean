/- How often the ranges of a fan change between growing and falling, by the program. -/
import Derived.Test.YtopggkomkfjbfaaCauT
import Derived.Test.YtopggkomkfjbfaaCauS
import Derived.Deep.RegionHeld3
import Derived.BigRegion
import Derived.IntWalk
namespace Go.Proofs.Ytopggkomkfjbfaa
set_option linter.unusedSimpArgs false
set_option linter.unusedVariables false
open Go.RowKit

@[go_sem] theorem rsRange (k : Int) (d : Bool) (l u : Int) (w : World) : (Instr.field 63 (.agg #[.int .i64 k, .bool d, .int .i64 l, .int .i64 u]) 2).run Try.prog w = .ok (.agg #[.int .i64 l, .int .i64 u]) w := by kernel_rfl
set_option maxRecDepth 8000 in
set_option maxHeartbeats 4000000 in
theorem implCaus_ok (A1 A2 : Option Addr) (c1 c2 : Nat) (ds ss : List Int) (src n lo hi : Int) (dn : Bool) (st K : Nat) (w : World) (h : ProfAt w A1 c1 A2 c2 ds ss) (hp : profB ds ss = true) (hf : fanB n lo hi = true) (u0 : 0 ≤ src) (u1 : src ≤ (ds.length : Int) - 1) (hst : st ≤ 100) (hK1 : hi ≤ lo + K) (hK2 : lo + K ≤ hi) :
    Calls Try.prog 24 #[profV A1 ds.length c1 A2 ss.length c2, .int .i64 src, .int .i64 n, .int .i64 lo, .int .i64 hi, .bool dn, .int .i64 st] w fun e w' => e = .returned (.tuple #[.int .i64 (ccTo ds ss src n lo dn st K).1, .int .i64 0]) ∧ Below w.heap.size w w' := by
  obtain ⟨f1, f2, f3, f4, f5⟩ := fan_ok hf
  obtain ⟨M, hM1, hM2⟩ : ∃ M : Nat, M ≤ K + 1 ∧ K + 1 ≤ M := ⟨K + 1, Nat.le_refl _, Nat.le_refl _⟩
  have hz : faE ds ss src n lo hi st = 0 := by
    unfold faE
    have a : inB src 0 ((ds.length : Int) - 1) = true := by simp [inB]; omega
    have b : inB (st : Int) 0 100 = true := by simp [inB]; omega
    rw [hp, hf, a, b]; rfl
  have FC := Lib.hid (show ∀ w, ProfAt w A1 c1 A2 c2 ds ss → Calls Try.prog 65 #[profV A1 ds.length c1 A2 ss.length c2, .int .i64 src, .int .i64 n, .int .i64 lo, .int .i64 hi, .int .i64 (st : Int)] w fun e w' => e = .returned (.int .i64 0) ∧ Below w.heap.size w w' from fun w h => by have q := fanCode_any A1 A2 c1 c2 ds ss src n lo hi st w h; rw [hz] at q; exact q)
  have r0 := fan_ray (m := lo) dn hp hf u0 u1 (by omega) (by omega)
  have l0 := r0.l0; have l1 := r0.l1; clear r0
  have H := Lib.hid h; have hp_ := Lib.hid hp; have hf_ := Lib.hid hf; clear h hz hp hf; have hp := Lib.hid hp_.out; have hf := Lib.hid hf_.out; clear hp_ hf_
  go_enter Try.func24, Try.ntmps24
  go_wp2_with fail
  (refine (FC.out _ (H.out.below (B := w.heap.size) (by first | exact Below.refl _ _ | (go_grown; done) | exact bdrewN (by go_grown) _) (Nat.le_refl _))).mono ?_; rintro e w1 ⟨rfl, hb1⟩; obtain ⟨B1, hz1, q1, s1, t1, x1, y1, z1⟩ := bkeep (w := w) [w.heap.size] (by first | (simp; done) | (simp; omega)) (by first | (go_grown; done) | exact bdrewN (by go_grown) _) hb1; (try simp at hz1); clear hb1)
  go_wp2_with fail
  refine (fanOf_any n lo hi dn M _ hf.out (by omega) (by omega)).mono ?_
  rintro e w3 ⟨⟨Af, cf, rfl, RF⟩, hb3⟩
  have VF := Lib.hid RF.at; clear RF
  obtain ⟨B3, hz3, q3, s3, t3, x3, y3, z3⟩ := bkeep (w := w) [w.heap.size] (by first | (simp; done) | (simp; omega)) (by first | (go_grown; done) | exact bdrewN (by go_grown) _) hb3; (try simp at hz3); clear hb3
  refine genS (S := fun w' => Below (w.heap.size) w w' ∧ w.heap.size < w'.heap.size ∧ w'.cell? ⟨w.heap.size, 0, none⟩ = some (.slice A1 ds.length c1) ∧ w'.cell? ⟨w.heap.size, 1, none⟩ = some (.slice A2 ss.length c2) ∧ KAt w' Af cf 3 (fanL n lo dn M)) ⟨(by first | with_reducible exact B3 | (go_grown; done)), by first | omega | (simp; done) | (simp; omega), by simp [*, go_sem], by simp [*, go_sem], VF.out⟩ ?_
  clear q3 s3 t3 x3 y3 z3 hz3 VF
  rintro w4 ⟨B4, lt4_0, c4_0, c4_1, GF⟩
  have z4 : w.heap.size ≤ w4.heap.size := B4.size
  have HP := Lib.hid (H.out.below B4 (Nat.le_refl _)); have HB4 := Lib.hid B4; clear B4 B1 q1 s1 t1 x1 y1 z1 hz1 B3
  obtain ⟨bf, of, rfl, hbf, fa⟩ := fan_all GF (by omega)
  have FA := Lib.hid fa; clear fa GF
  go_wp2
  go_loopw [17, 18, 46] (fun v u i wr => Below w4.heap.size w4 wr ∧ ∃ (k : Nat) (els : List (List Value)), k ≤ M ∧ i = .int .i64 k ∧ OwnK wr w4.heap.size 87 3 v els ∧ els.length = k ∧ OwnK wr w4.heap.size 29 2 u (rgF ds ss src n lo dn st k) ∧ TrsI ds ss src n lo dn st wr v u els) (fun _ _ i _ => M - (intOf i).toNat)
  case atStart => exact ⟨by first | exact Below.refl _ _ | go_grown, 0, [], by omega, rfl, OwnK.none_ _ _ _ _, rfl, OwnK.none_ _ _ _ _, TrsI.nil⟩
  case round =>
    obtain ⟨Br, k, els, hk, rfl, ⟨Q1, d1, rfl, hd1, ho1, hall1⟩, hle, ⟨Q2, d2, rfl, hd2, ho2, hall2⟩, hT⟩ := hrel
    simp only [rgF_len] at ho2 hT ⊢
    rw [hle] at ho1 hT ⊢
    have HO1 := Lib.hid ho1; have HO2 := Lib.hid ho2; have HA1 := Lib.hid hall1; have HA2 := Lib.hid hall2; have HT := Lib.hid hT; have HL := Lib.hid hle; clear ho1 ho2 hall1 hall2 hT hle
    have sr := Br.size
    have HBr := Lib.hid Br
    have r0 := (bAt Br (b := w.heap.size) (o := 0) (by omega)).trans c4_0
    have r1 := (bAt Br (b := w.heap.size) (o := 1) (by omega)).trans c4_1
    have HR := Lib.hid (HP.out.below Br (Nat.le_refl _))
    by_cases hlt : k < M
    · have ra := fan_ray (m := lo + (k : Int)) dn hp.out hf.out u0 u1 (by omega) (by omega)
      obtain ⟨a0, a1, a2⟩ := FA.out k hlt
      have b0 := (bAt Br (b := bf) (o := of + k * 3) hbf).trans a0
      have b1 := (bAt Br (b := bf) (o := of + k * 3 + 1) hbf).trans a1
      have b2 := (bAt Br (b := bf) (o := of + k * 3 + 2) hbf).trans a2
      have hN := rgF_next ds ss src n lo dn st k
      have TN := Lib.hid (fun (w : World) (v1 v2 : Value) (Ae As Ad : Option Addr) (ce cs cd l hh : Nat) (h : TrsI ds ss src n lo dn st w v1 v2 els) (r : ResI w l hh Ae ce (trE ds ss src (mdC (lo + (k : Int)) n) (mdH (lo + (k : Int)) n) (rs0 src (mdS (lo + (k : Int)) n dn)) st)) (s : hh ≤ w.heap.size) (a : ∀ g, v1.ownBlock = some g → g < l ∨ hh ≤ g) (b : ∀ g, v2.ownBlock = some g → g < l ∨ hh ≤ g) => TrsI.next (i := k) (As := As) (cs := cs) (Ad := Ad) (cd := cd) h HL.out r s a b)
      clear a0 a1 a2 Br
      generalize mdC (lo + (k : Int)) n = c0 at *
      generalize mdS (lo + (k : Int)) n dn = s0_ at *
      generalize mdH (lo + (k : Int)) n = h0 at *
      obtain ⟨xk, xd, xl, xh, hx⟩ := rs_cell (rwAt ds ss src c0 s0_ h0 st)
      rw [hx] at hN
      dsimp only at hN
      have LA := Lib.hid (fun (a c : Value) (As : Option Addr) (cs : Nat) (w : World) (h : KAt w As cs 4 ((trS ds ss src c0 h0 (rs0 src s0_) st).map rsCell)) => lastAt_any a c A1 A2 ds.length c1 ss.length c2 ds ss src c0 s0_ h0 st As cs w h ra hst xk xd xl xh hx)
      have TR := Lib.hid (fun w h => implTrace_ok A1 A2 c1 c2 ds ss src c0 s0_ h0 st w h ra hst (no_limit ra st hst).1)
      have HN := Lib.hid hN; clear hN hx ra
      have gk : (k : Int) < M := by omega
      have gk0 : (0 : Int) ≤ k := by omega
      have lbf : bf < wr.heap.size := by omega
      have lp : w.heap.size < wr.heap.size := by omega
      have lpn : (w.heap.size = wr.heap.size) = False := eq_false (by omega)
      go_upto_region 13 with (go_at_call 67; refine (TR.out _ (HR.out.below (B := wr.heap.size) (by first | exact Below.refl _ _ | (go_grown; done) | exact bdrewN (by go_grown) _) (Nat.le_refl _))).mono ?_; rintro e w7 ⟨⟨Ae, ce, As, cs, Ad, cd, rfl, R1, R2, R3⟩, hb7⟩; clear R3; have V1 := Lib.hid (R1.mono (show wr.heap.size ≤ _ by first | (simp; done) | (simp; omega)) (Nat.le_refl _)); have V2 := Lib.hid (R2.mono (show wr.heap.size ≤ _ by first | (simp; done) | (simp; omega)) (Nat.le_refl _)); clear R1 R2; obtain ⟨B7, hz7, q7, s7, t7, x7, y7, z7⟩ := bkeep (w := wr) [w.heap.size, wr.heap.size + 1] (by first | (simp; done) | (simp; omega)) (by first | (go_grown; done) | exact bdrewN (by go_grown) _) hb7; (try simp at hz7); clear hb7)
      have K7 := Keep.of_below (lo := w4.heap.size) B7
      have l7 : wr.heap.size + 1 + 1 ≤ w7.heap.size := by omega
      refine genS (S := fun w' => Below (wr.heap.size) wr w' ∧ wr.heap.size + 1 < w'.heap.size ∧ w7.heap.size < w'.heap.size ∧ w'.cell? ⟨wr.heap.size + 1, 0, none⟩ = some (.slice A1 ds.length c1) ∧ w'.cell? ⟨wr.heap.size + 1, 1, none⟩ = some (.slice A2 ss.length c2) ∧ w'.cell? ⟨wr.heap.size + 1, 2, none⟩ = some (.int .i64 src) ∧ w'.cell? ⟨wr.heap.size + 1, 3, none⟩ = some (.int .i64 c0) ∧ w'.cell? ⟨wr.heap.size + 1, 4, none⟩ = some (.int .i64 s0_) ∧ w'.cell? ⟨wr.heap.size + 1, 5, none⟩ = some (.int .i64 h0) ∧ w'.cell? ⟨w7.heap.size, 0, none⟩ = some (.slice Ae st ce) ∧ w'.cell? ⟨w7.heap.size, 1, none⟩ = some (.slice As st cs) ∧ w'.cell? ⟨w7.heap.size, 2, none⟩ = some (.slice Ad st cd) ∧ w'.ownsRow w4.heap.size 87 3 (.slice Q1 k d1) k els.flatten ∧ w'.ownsRow w4.heap.size 29 2 (.slice Q2 k d2) k (rgF ds ss src n lo dn st k).flatten ∧ ResI w' wr.heap.size w7.heap.size Ae ce (trE ds ss src c0 h0 (rs0 src s0_) st) ∧ ResK w' wr.heap.size w7.heap.size As cs 4 ((trS ds ss src c0 h0 (rs0 src s0_) st).map rsCell)) ⟨(by first | with_reducible exact B7 | (go_grown; done)), by first | omega | (simp; done) | (simp; omega), by first | omega | (simp; done) | (simp; omega), by simp [*, go_sem], by simp [*, go_sem], by simp [*, go_sem], by simp [*, go_sem], by simp [*, go_sem], by simp [*, go_sem], by simp [*, go_sem], by simp [*, go_sem], by simp [*, go_sem], own_keep HO1.out (by repeat' (first | with_reducible exact K7 | with_reducible exact Keep.refl _ _ _ | with_reducible refine Keep.setB ?_ ?_ _ | with_reducible refine Keep.alloc ?_ ?_ _ | with_reducible refine Keep.drew ?_ | omega | (simp; done) | (simp; omega))), own_keep HO2.out (by repeat' (first | with_reducible exact K7 | with_reducible exact Keep.refl _ _ _ | with_reducible refine Keep.setB ?_ ?_ _ | with_reducible refine Keep.alloc ?_ ?_ _ | with_reducible refine Keep.drew ?_ | omega | (simp; done) | (simp; omega))), V1.out.below (B := w7.heap.size) (by go_grown) (Nat.le_refl _), V2.out.below (B := w7.heap.size) (by go_grown) (Nat.le_refl _)⟩ ?_
      clear q7 s7 t7 x7 y7 z7 hz7 V1 V2 r0 r1 b0 b1 b2
      rintro w8 ⟨B8, lt8_0, lt8_1, c8_0, c8_1, c8_2, c8_3, c8_4, c8_5, c8_6, c8_7, c8_8, G1, G2, GV, GS⟩
      have z8 : wr.heap.size ≤ w8.heap.size := B8.size
      have T8 := Lib.hid (TN.out w8 _ _ Ae As Ad ce cs cd wr.heap.size w7.heap.size (HT.out.below B8 (Nat.le_refl _)) GV (by omega) (fun g q => by have := HO1.out.lt g q; omega) (fun g q => by have := HO2.out.lt g q; omega))
      have W1 := Lib.hid (fun g q => HO1.out.lt g q); have W2 := Lib.hid (fun g q => HO2.out.lt g q)
      have O1 := Lib.hid G1; have O2 := Lib.hid G2; have VS := Lib.hid GS; have HB8 := Lib.hid B8; clear G1 G2 GV GS B8 TN HT TR HO1 HO2 B7 K7
      go_upto_region 14 with (at_builtin; refine appG rfl _ _ 114 rfl w4.heap.size 87 (.agg #[.slice none 0 0, .slice none 0 0, .slice none 0 0]) 3 72 Try.underlying114 infoTr rfl (by omega) [.slice Ae st ce, .slice As st cs, .slice Ad st cd] rfl (by intro u hu; simp at hu; rcases hu with rfl | rfl | rfl <;> rfl) _ _ _ rfl _ rfl (own_keep O1.out (by repeat' (first | with_reducible exact Keep.refl _ _ _ | with_reducible refine Keep.setB ?_ ?_ _ | with_reducible refine Keep.alloc ?_ ?_ _ | with_reducible refine Keep.drew ?_ | omega | (simp; done) | (simp; omega)))) ?_ ?_ ?_ ?_ ?_; (focus (intro j u hj; match j, hj with | 0, hj => (simp at hj; subst hj; simp [*, go_sem]) | 1, hj => (simp at hj; subst hj; simp [*, go_sem]) | 2, hj => (simp at hj; subst hj; simp [*, go_sem]) | j + 3, hj => simp at hj)); (focus (unfold maxLen; omega)); (focus omega); (focus (first | omega | (simp; omega))); intro v9 w9 hown9 hg9 hat9; have T9 := Lib.hid ((T8.out.below (B := w8.heap.size) (by first | exact Below.refl _ _ | (go_grown; done)) (Nat.le_refl _)).grow1 hg9 hat9); have M2 := Lib.hid ((own_keep O2.out (by repeat' (first | with_reducible exact Keep.refl _ _ _ | with_reducible refine Keep.setB ?_ ?_ _ | with_reducible refine Keep.alloc ?_ ?_ _ | with_reducible refine Keep.drew ?_ | omega | (simp; done) | (simp; omega)))).kept hg9 (own_ne (own_keep O1.out (by repeat' (first | with_reducible exact Keep.refl _ _ _ | with_reducible refine Keep.setB ?_ ?_ _ | with_reducible refine Keep.alloc ?_ ?_ _ | with_reducible refine Keep.drew ?_ | omega | (simp; done) | (simp; omega)))) (own_keep O2.out (by repeat' (first | with_reducible exact Keep.refl _ _ _ | with_reducible refine Keep.setB ?_ ?_ _ | with_reducible refine Keep.alloc ?_ ?_ _ | with_reducible refine Keep.drew ?_ | omega | (simp; done) | (simp; omega)))) tr_ne)); have S9 := Lib.hid (VS.out.keep (Keep.grown (lo := wr.heap.size) (hi := w7.heap.size) (w := w8) (by repeat' (first | with_reducible exact Keep.refl _ _ _ | with_reducible refine Keep.setB ?_ ?_ _ | with_reducible refine Keep.alloc ?_ ?_ _ | with_reducible refine Keep.drew ?_ | omega | (simp; done) | (simp; omega))) hg9 (fun g q => by have := W1.out g q; omega) (by omega))); have C9 := Below.grow (B := w4.heap.size) (w0 := wr) (by have hb_ := HB8.out.mono (show w4.heap.size ≤ wr.heap.size by omega); first | with_reducible exact hb_ | (go_grown; done)) hg9 (fun g q => by have := W1.out g q; omega) (by first | omega | (simp; omega)); obtain ⟨z9, q9, s9, x9, y9⟩ := gkeep (lo := w4.heap.size) (hi := wr.heap.size) [wr.heap.size + 1, w7.heap.size] (fun g q => W1.out g q) (by first | (simp; done) | (simp; omega)) hg9; obtain ⟨Q3, d3, rfl, hd3⟩ := owns_form hown9; have M1 := Lib.hid hown9; clear hown9 hg9 hat9)
      have lx1 := x9 (wr.heap.size + 1) (by simp); have lx2 := x9 w7.heap.size (by simp)
      refine genS (S := fun w' => Below (w4.heap.size) wr w' ∧ wr.heap.size + 1 < w'.heap.size ∧ w7.heap.size < w'.heap.size ∧ w'.cell? ⟨wr.heap.size + 1, 0, none⟩ = some (.slice A1 ds.length c1) ∧ w'.cell? ⟨wr.heap.size + 1, 1, none⟩ = some (.slice A2 ss.length c2) ∧ w'.cell? ⟨wr.heap.size + 1, 2, none⟩ = some (.int .i64 src) ∧ w'.cell? ⟨wr.heap.size + 1, 3, none⟩ = some (.int .i64 c0) ∧ w'.cell? ⟨wr.heap.size + 1, 4, none⟩ = some (.int .i64 s0_) ∧ w'.cell? ⟨wr.heap.size + 1, 5, none⟩ = some (.int .i64 h0) ∧ w'.cell? ⟨w7.heap.size, 0, none⟩ = some (.slice Ae st ce) ∧ w'.cell? ⟨w7.heap.size, 1, none⟩ = some (.slice As st cs) ∧ w'.cell? ⟨w7.heap.size, 2, none⟩ = some (.slice Ad st cd) ∧ w9.heap.size ≤ w'.heap.size ∧ w8.heap.size ≤ w'.heap.size ∧ w'.ownsRow w4.heap.size 87 3 (.slice Q3 (k + 1) d3) (k + 1) (els.flatten ++ [.slice Ae st ce, .slice As st cs, .slice Ad st cd]) ∧ w'.ownsRow w4.heap.size 29 2 (.slice Q2 k d2) k (rgF ds ss src n lo dn st k).flatten ∧ TrsI ds ss src n lo dn st w' (.slice Q3 (k + 1) d3) (.slice Q2 k d2) (els ++ [[.slice Ae st ce, .slice As st cs, .slice Ad st cd]]) ∧ ResK w' wr.heap.size w7.heap.size As cs 4 ((trS ds ss src c0 h0 (rs0 src s0_) st).map rsCell)) ⟨(by first | with_reducible exact C9 | (go_grown; done)), by first | omega | (simp; done) | (simp; omega), by first | omega | (simp; done) | (simp; omega), by simp [*, go_sem], by simp [*, go_sem], by simp [*, go_sem], by simp [*, go_sem], by simp [*, go_sem], by simp [*, go_sem], by simp [*, go_sem], by simp [*, go_sem], by simp [*, go_sem], Nat.le_refl _, by first | omega | (simp at z9; omega), M1.out, M2.out, T9.out, S9.out⟩ ?_
      clear q9 s9 x9 y9 T9 M1 M2 S9 O1 O2 VS T8 c8_0 c8_1 c8_2 c8_3 c8_4 c8_5 c8_6 c8_7 c8_8
      rintro w10 ⟨B10, lt10_0, lt10_1, c10_0, c10_1, c10_2, c10_3, c10_4, c10_5, c10_6, c10_7, c10_8, sz10, sz10b, G1, G2, GT, GS⟩
      have z10 : wr.heap.size ≤ w10.heap.size := B10.size
      have O1 := Lib.hid G1; have O2 := Lib.hid G2; have VS := Lib.hid GS; have T10 := Lib.hid GT; have HB10 := Lib.hid B10; clear G1 G2 GS GT B10 C9
      go_wp2_with (first
        | (go_at_call 68; refine (LA.out _ _ As cs _ (VS.out.at.below (B := w10.heap.size) (by first | exact Below.refl _ _ | (go_grown; done)) (Nat.le_refl _))).mono ?_; rintro e w11 ⟨rfl, hb11⟩; have K11 := Keep.of_below (lo := w4.heap.size) hb11; have HB11 := Lib.hid hb11; have sz11 := hb11.size; clear hb11)
        | (at_builtin; refine appG rfl _ _ 85 rfl w4.heap.size 29 (.agg #[.int .i64 0, .int .i64 0]) 2 16 Try.underlying85 infoIv rfl (by omega) (ivCell (xl, xh)) rfl (by intro u hu; simp [ivCell] at hu; rcases hu with rfl | rfl <;> rfl) _ _ _ rfl _ rfl (own_keep O2.out (by repeat' (first | with_reducible exact K11 | with_reducible exact Keep.refl _ _ _ | with_reducible refine Keep.setB ?_ ?_ _ | with_reducible refine Keep.alloc ?_ ?_ _ | with_reducible refine Keep.drew ?_ | omega | (simp; done) | (simp; omega)))) ?_ ?_ ?_ ?_ ?_; (focus (intro j u hj; match j, hj with | 0, hj => (simp [ivCell] at hj; subst hj; simp [*, go_sem]) | 1, hj => (simp [ivCell] at hj; subst hj; simp [*, go_sem]) | j + 2, hj => simp [ivCell] at hj)); (focus (unfold maxLen; omega)); (focus omega); (focus (first | omega | (simp; omega))); intro v12 w12 hown12 hg12 hat12; have T12 := Lib.hid ((T10.out.below (B := w10.heap.size) (by have hb_ := HB11.out; first | with_reducible exact hb_ | (go_grown; done)) (Nat.le_refl _)).grow2 hg12 hat12); have M1 := Lib.hid ((own_keep O1.out (by repeat' (first | with_reducible exact K11 | with_reducible exact Keep.refl _ _ _ | with_reducible refine Keep.setB ?_ ?_ _ | with_reducible refine Keep.alloc ?_ ?_ _ | with_reducible refine Keep.drew ?_ | omega | (simp; done) | (simp; omega)))).kept hg12 (own_ne (own_keep O2.out (by repeat' (first | with_reducible exact K11 | with_reducible exact Keep.refl _ _ _ | with_reducible refine Keep.setB ?_ ?_ _ | with_reducible refine Keep.alloc ?_ ?_ _ | with_reducible refine Keep.drew ?_ | omega | (simp; done) | (simp; omega)))) (own_keep O1.out (by repeat' (first | with_reducible exact K11 | with_reducible exact Keep.refl _ _ _ | with_reducible refine Keep.setB ?_ ?_ _ | with_reducible refine Keep.alloc ?_ ?_ _ | with_reducible refine Keep.drew ?_ | omega | (simp; done) | (simp; omega)))) tr_ne.symm)); have C12 := Below.grow (B := w4.heap.size) (w0 := w4) (by have hb_ := HBr.out.trans (HB10.out.trans (HB11.out.mono (show w4.heap.size ≤ w10.heap.size by omega))); first | with_reducible exact hb_ | (go_grown; done)) hg12 (fun g q => by have := W2.out g q; omega) (by first | omega | (simp; omega)); obtain ⟨Q4, d4, rfl, hd4⟩ := owns_form hown12; have M2 := Lib.hid hown12; clear hown12 hg12 hat12))
      go_roundw
      case rel =>
        refine ⟨C12, k + 1, els ++ [[.slice Ae st ce, .slice As st cs, .slice Ad st cd]], by omega, by first | done | go_num | rfl, OwnK.next (els := els) rfl (by rw [HL.out]; exact M1.out) HA1.out rfl, by rw [List.length_append, HL.out]; rfl, OwnK.next (els := rgF ds ss src n lo dn st k) HN.out (by rw [rgF_len]; exact M2.out) HA2.out rfl, T12.out⟩
      case measure => simp [intOf]; omega
    · obtain rfl : k = M := by omega
      clear r0 r1 Br
      generalize wr = wo at *
      have KR := Lib.hid (OwnK.res (n := k) (els := rgF ds ss src n lo dn st k) ⟨Q2, d2, by rw [rgF_len], hd2, by rw [rgF_len]; exact HO2.out, HA2.out⟩).2.at
      have KT := Lib.hid (OwnK.res (n := k) (els := els) ⟨Q1, d1, by rw [HL.out], hd1, by rw [HL.out]; exact HO1.out, HA1.out⟩).2.at
      obtain ⟨b1, o1, rfl, hb1, ga⟩ := rg_all KR.out (by omega)
      obtain ⟨b2, o2, rfl, hb2, gt⟩ := tr_all KT.out HL.out HT.out (by omega)
      have GA := Lib.hid ga; have GT := Lib.hid gt; clear ga gt KR KT HO1 HO2 HA1 HA2 HT HL
      go_wp2
      go_loopw [24, 25, 26] (fun c y i wr => Below wo.heap.size wo wr ∧ ∃ (j : Nat) (ii cn la : Int), j ≤ K ∧ ii ≤ (j : Int) + 1 ∧ (j : Int) + 1 ≤ ii ∧ i = .int .i64 ii ∧ Hid (ccTo ds ss src n lo dn st j = (cn, la)) ∧ c = .int .i64 cn ∧ y = .int .i64 la) (fun _ _ i _ => k - (intOf i).toNat)
      case atStart => exact ⟨by first | exact Below.refl _ _ | go_grown, 0, 1, 0, 0, by omega, by omega, by omega, rfl, Lib.hid rfl, rfl, rfl⟩
      case round =>
        obtain ⟨Bq, j, ii, cn, la, hj, hi1, hi2, rfl, hcc, rfl, rfl⟩ := hrel
        have bd := cc_bd ds ss src n lo dn st j
        rw [hcc.out] at bd
        dsimp only at bd
        obtain ⟨bd1, bd2, bd3, bd4⟩ := bd
        have sq := Bq.size
        have HBq := Lib.hid Bq
        by_cases hlt : j < K
        · obtain ⟨e0, e1⟩ := GA.out j (by omega)
          obtain ⟨e2, e3⟩ := GA.out (j + 1) (by omega)
          obtain ⟨Ae, ce, g0, i0⟩ := GT.out j (by omega)
          obtain ⟨Be, de, g1, i1⟩ := GT.out (j + 1) (by omega)
          have ek : ((j + 1 : Nat) : Int) = (j : Int) + 1 := by omega
          rw [ek] at e2 e3 i1
          have fe0 := (bAt Bq (b := b1) (o := o1 + j * 2) hb1).trans e0
          have fe1 := (bAt Bq (b := b1) (o := o1 + j * 2 + 1) hb1).trans e1
          have fe2 := (bAt Bq (b := b1) (o := o1 + (j + 1) * 2) hb1).trans e2
          have fe3 := (bAt Bq (b := b1) (o := o1 + (j + 1) * 2 + 1) hb1).trans e3
          have fg0 := (bAt Bq (b := b2) (o := o2 + j * 3) hb2).trans g0
          have fg1 := (bAt Bq (b := b2) (o := o2 + (j + 1) * 3) hb2).trans g1
          have I0 := Lib.hid (i0.below Bq (Nat.le_refl _)); have I1 := Lib.hid (i1.below Bq (Nat.le_refl _))
          clear e0 e1 e2 e3 g0 g1 i0 i1 ek Bq
          have ra := fan_ray (m := lo + (j : Int)) dn hp.out hf.out u0 u1 (by omega) (by omega)
          have rb := fan_ray (m := lo + ((j : Int) + 1)) dn hp.out hf.out u0 u1 (by omega) (by omega)
          have se := same_eq ra rb st hst
          have hS : ccTo ds ss src n lo dn st (j + 1) = stC (ccTo ds ss src n lo dn st j) (sameN ds ss src (mdC (lo + (j : Int)) n) (mdS (lo + (j : Int)) n dn) (mdH (lo + (j : Int)) n) (mdC (lo + ((j : Int) + 1)) n) (mdS (lo + ((j : Int) + 1)) n dn) (mdH (lo + ((j : Int) + 1)) n) st) (trd (rwAt ds ss src (mdC (lo + (j : Int)) n) (mdS (lo + (j : Int)) n dn) (mdH (lo + (j : Int)) n) st) (rwAt ds ss src (mdC (lo + ((j : Int) + 1)) n) (mdS (lo + ((j : Int) + 1)) n dn) (mdH (lo + ((j : Int) + 1)) n) st)) := rfl
          obtain ⟨xk, xd, xl, xh, hx⟩ := rs_cell (rwAt ds ss src (mdC (lo + (j : Int)) n) (mdS (lo + (j : Int)) n dn) (mdH (lo + (j : Int)) n) st)
          obtain ⟨yk, yd, yl, yh, hy_⟩ := rs_cell (rwAt ds ss src (mdC (lo + ((j : Int) + 1)) n) (mdS (lo + ((j : Int) + 1)) n dn) (mdH (lo + ((j : Int) + 1)) n) st)
          obtain ⟨sm, hsm⟩ : ∃ x, sameN ds ss src (mdC (lo + (j : Int)) n) (mdS (lo + (j : Int)) n dn) (mdH (lo + (j : Int)) n) (mdC (lo + ((j : Int) + 1)) n) (mdS (lo + ((j : Int) + 1)) n dn) (mdH (lo + ((j : Int) + 1)) n) st = x := ⟨_, rfl⟩
          rw [hx, hy_, hsm, hcc.out] at hS
          rw [hx] at fe0 fe1; rw [hy_] at fe2 fe3
          dsimp only at fe0 fe1 fe2 fe3
          rw [hsm] at se
          have EQ := Lib.hid (show ∀ w, IntsAt w Ae ce (trE ds ss src (mdC (lo + (j : Int)) n) (mdH (lo + (j : Int)) n) (rs0 src (mdS (lo + (j : Int)) n dn)) st) → IntsAt w Be de (trE ds ss src (mdC (lo + ((j : Int) + 1)) n) (mdH (lo + ((j : Int) + 1)) n) (rs0 src (mdS (lo + ((j : Int) + 1)) n dn)) st) → Calls Try.prog 69 #[.slice Ae st ce, .slice Be st de] w fun e w' => e = .returned (.bool sm) ∧ Below w.heap.size w w' from fun w h1 h2 => by have q := sliceEqual_any Ae Be ce de st _ _ w h1 h2 (trE_len _ _ _ _ _ _ _) (trE_len _ _ _ _ _ _ _); rw [se] at q; exact q)
          have hT : trd ⟨xk, xd, xl, xh⟩ ⟨yk, yd, yl, yh⟩ = if xh < yl then 1 else if yh < xl then -1 else 0 := rfl
          rw [hT] at hS
          have HS := Lib.hid hS; clear hS hT hx hy_ hsm se ra rb
          have gi : ii < (k : Int) := by omega
          have gi0 : (0 : Int) ≤ ii := by omega
          have gi3 : ii.toNat = j + 1 := by omega
          have gj : (j : Int) < (k : Int) := by omega
          have gj0 : (0 : Int) ≤ j := by omega
          have lb1 : b1 < wr.heap.size := by omega
          have lb2 : b2 < wr.heap.size := by omega
          have lb1a : b1 < wr.heap.size + 1 := by omega
          go_upto_region 21 with fail
          go_cut [28, 29] (fun p q wx => ∃ ra rb, p = .pointer (some ⟨ra, 0, none⟩) ∧ q = .pointer (some ⟨rb, 0, none⟩) ∧ Below wr.heap.size wr wx ∧ ra < wx.heap.size ∧ rb < wx.heap.size ∧ wr.heap.size ≤ ra ∧ wr.heap.size ≤ rb ∧ wx.cell? ⟨ra, 0, none⟩ = some (.int .i64 xl) ∧ wx.cell? ⟨ra, 1, none⟩ = some (.int .i64 xh) ∧ wx.cell? ⟨rb, 0, none⟩ = some (.int .i64 yl) ∧ wx.cell? ⟨rb, 1, none⟩ = some (.int .i64 yh))
          case first =>
            have wi : IntKind.i64.wrap (ii - 1) = (j : Int) := by rw [show ii - 1 = (j : Int) by omega]; exact IntWalk.i64_in _ (by omega)
            go_region
            all_goals go_wp2_with fail
            all_goals go_meet
            all_goals exact ⟨_, _, rfl, rfl, (by go_grown), by first | omega | (simp; done) | (simp; omega), by first | omega | (simp; done) | (simp; omega), by first | omega | (simp; done) | (simp; omega), by first | omega | (simp; done) | (simp; omega), by simp [*, go_sem], by simp [*, go_sem], by simp [*, go_sem], by simp [*, go_sem]⟩
          case rest =>
            obtain ⟨ra, rb, rfl, rfl, hF⟩ := hcut
            revert hF; generalize wc = wx; rintro ⟨hbx, lta, ltb, loa, lob, xa0, xa1, ya0, ya1⟩
            have gg0 := (bAt hbx (b := b2) (o := o2 + j * 3) lb2).trans fg0
            have gg1 := (bAt hbx (b := b2) (o := o2 + (j + 1) * 3) lb2).trans fg1
            have J0 := Lib.hid (I0.out.below hbx (Nat.le_refl _)); have J1 := Lib.hid (I1.out.below hbx (Nat.le_refl _)); have sx := hbx.size; have HBx := Lib.hid hbx; clear hbx fe0 fe1 fe2 fe3 fg0 fg1 I0 I1
            have lb3 : b2 < wx.heap.size := by omega
            go_upto_region 22 with fail
            have wi : IntKind.i64.wrap (ii - 1) = (j : Int) := by rw [show ii - 1 = (j : Int) by omega]; exact IntWalk.i64_in _ (by omega)
            go_region_held3 (fun w' => w'.cell? ⟨b2, o2 + j * 3, none⟩ = some (.slice Ae st ce) ∧ w'.cell? ⟨b2, o2 + (j + 1) * 3, none⟩ = some (.slice Be st de)) (first | (go_keep; done) | (simp [*, go_sem]; done))
              (first
                | (go_at_call 69; refine (EQ.out _ (J0.out.below (B := wx.heap.size) (by first | exact Below.refl _ _ | (go_grown; done) | exact bdrewN (by go_grown) _) (Nat.le_refl _)) (J1.out.below (B := wx.heap.size) (by first | exact Below.refl _ _ | (go_grown; done) | exact bdrewN (by go_grown) _) (Nat.le_refl _))).mono ?_; rintro e wy ⟨rfl, hby⟩; obtain ⟨hcy, hfy⟩ := bcell hby; (try simp only [World.size_alloc, World.size_drew, size_set] at hcy); (try simp only [World.size_alloc, World.size_drew, size_set] at hfy); have hzy := hby.size; (try simp only [World.size_alloc, World.size_drew, size_set] at hzy); have BB := Lib.hid ((show Below wx.heap.size wx _ from (by first | exact Below.refl _ _ | (go_grown; done) | exact bdrewN (by go_grown) _)).trans (hby.mono (by first | omega | (simp; done) | (simp; omega)))); clear hby))
            clear wi
            refine genS (S := fun w' => Below wo.heap.size wo w' ∧ w'.cell? ⟨ra, 0, none⟩ = some (.int .i64 xl) ∧ w'.cell? ⟨ra, 1, none⟩ = some (.int .i64 xh) ∧ w'.cell? ⟨rb, 0, none⟩ = some (.int .i64 yl) ∧ w'.cell? ⟨rb, 1, none⟩ = some (.int .i64 yh)) ⟨(by have hb_ := HBq.out.trans ((HBx.out.trans (BB.out.mono sx)).mono sq); first | with_reducible exact hb_ | (go_grown; done) | exact bdrewN (by go_grown) _), by (have q := bAt BB.out (b := ra) (o := 0) lta); simp [*, go_sem], by (have q := bAt BB.out (b := ra) (o := 1) lta); simp [*, go_sem], by (have q := bAt BB.out (b := rb) (o := 0) ltb); simp [*, go_sem], by (have q := bAt BB.out (b := rb) (o := 1) ltb); simp [*, go_sem]⟩ ?_
            clear xa0 xa1 ya0 ya1 gg0 gg1
            rintro wz ⟨Bz, xa0, xa1, ya0, ya1⟩
            have HBz := Lib.hid Bz; clear Bz
            have hla : la = -1 ∨ la = 0 ∨ la = 1 := by omega
            rcases sm with _ | _
            · rcases hla with rfl | rfl | rfl
              · have HN : Hid (ccTo ds ss src n lo dn st (j + 1) = (cn, 0)) := Lib.hid (by rw [HS.out]; simp [stC, *])
                go_wp2
                go_roundw
                case rel => exact ⟨by have hb_ := HBz.out; first | with_reducible exact hb_ | (go_grown; done) | exact bdrewN (by go_grown) _, j + 1, ii + 1, cn, 0, by omega, by omega, by omega, by first | go_num | rfl, Lib.hid HN.out, rfl, rfl⟩
                case measure => simp [intOf]; omega
              · have HN : Hid (ccTo ds ss src n lo dn st (j + 1) = (cn, 0)) := Lib.hid (by rw [HS.out]; simp [stC, *])
                go_wp2
                go_roundw
                case rel => exact ⟨by have hb_ := HBz.out; first | with_reducible exact hb_ | (go_grown; done) | exact bdrewN (by go_grown) _, j + 1, ii + 1, cn, 0, by omega, by omega, by omega, by first | go_num | rfl, Lib.hid HN.out, rfl, rfl⟩
                case measure => simp [intOf]; omega
              · have HN : Hid (ccTo ds ss src n lo dn st (j + 1) = (cn, 0)) := Lib.hid (by rw [HS.out]; simp [stC, *])
                go_wp2
                go_roundw
                case rel => exact ⟨by have hb_ := HBz.out; first | with_reducible exact hb_ | (go_grown; done) | exact bdrewN (by go_grown) _, j + 1, ii + 1, cn, 0, by omega, by omega, by omega, by first | go_num | rfl, Lib.hid HN.out, rfl, rfl⟩
                case measure => simp [intOf]; omega
            · by_cases p1 : xh < yl
              · rcases hla with rfl | rfl | rfl
                · have HN : Hid (ccTo ds ss src n lo dn st (j + 1) = ((cn + 1), 1)) := Lib.hid (by rw [HS.out]; simp [stC, *])
                  go_wp2
                  go_roundw
                  case rel => exact ⟨by have hb_ := HBz.out; first | with_reducible exact hb_ | (go_grown; done) | exact bdrewN (by go_grown) _, j + 1, ii + 1, (cn + 1), 1, by omega, by omega, by omega, by first | go_num | rfl, Lib.hid HN.out, rfl, rfl⟩
                  case measure => simp [intOf]; omega
                · have HN : Hid (ccTo ds ss src n lo dn st (j + 1) = (cn, 1)) := Lib.hid (by rw [HS.out]; simp [stC, *])
                  go_wp2
                  go_roundw
                  case rel => exact ⟨by have hb_ := HBz.out; first | with_reducible exact hb_ | (go_grown; done) | exact bdrewN (by go_grown) _, j + 1, ii + 1, cn, 1, by omega, by omega, by omega, by first | go_num | rfl, Lib.hid HN.out, rfl, rfl⟩
                  case measure => simp [intOf]; omega
                · have HN : Hid (ccTo ds ss src n lo dn st (j + 1) = (cn, 1)) := Lib.hid (by rw [HS.out]; simp [stC, *])
                  go_wp2
                  go_roundw
                  case rel => exact ⟨by have hb_ := HBz.out; first | with_reducible exact hb_ | (go_grown; done) | exact bdrewN (by go_grown) _, j + 1, ii + 1, cn, 1, by omega, by omega, by omega, by first | go_num | rfl, Lib.hid HN.out, rfl, rfl⟩
                  case measure => simp [intOf]; omega
              · by_cases p2 : yh < xl
                · rcases hla with rfl | rfl | rfl
                  · have HN : Hid (ccTo ds ss src n lo dn st (j + 1) = (cn, (-1))) := Lib.hid (by rw [HS.out]; simp [stC, *])
                    go_wp2
                    go_roundw
                    case rel => exact ⟨by have hb_ := HBz.out; first | with_reducible exact hb_ | (go_grown; done) | exact bdrewN (by go_grown) _, j + 1, ii + 1, cn, (-1), by omega, by omega, by omega, by first | go_num | rfl, Lib.hid HN.out, rfl, rfl⟩
                    case measure => simp [intOf]; omega
                  · have HN : Hid (ccTo ds ss src n lo dn st (j + 1) = (cn, (-1))) := Lib.hid (by rw [HS.out]; simp [stC, *])
                    go_wp2
                    go_roundw
                    case rel => exact ⟨by have hb_ := HBz.out; first | with_reducible exact hb_ | (go_grown; done) | exact bdrewN (by go_grown) _, j + 1, ii + 1, cn, (-1), by omega, by omega, by omega, by first | go_num | rfl, Lib.hid HN.out, rfl, rfl⟩
                    case measure => simp [intOf]; omega
                  · have HN : Hid (ccTo ds ss src n lo dn st (j + 1) = ((cn + 1), (-1))) := Lib.hid (by rw [HS.out]; simp [stC, *])
                    go_wp2
                    go_roundw
                    case rel => exact ⟨by have hb_ := HBz.out; first | with_reducible exact hb_ | (go_grown; done) | exact bdrewN (by go_grown) _, j + 1, ii + 1, (cn + 1), (-1), by omega, by omega, by omega, by first | go_num | rfl, Lib.hid HN.out, rfl, rfl⟩
                    case measure => simp [intOf]; omega
                · rcases hla with rfl | rfl | rfl
                  · have HN : Hid (ccTo ds ss src n lo dn st (j + 1) = (cn, (-1))) := Lib.hid (by rw [HS.out]; simp [stC, *])
                    go_wp2
                    go_roundw
                    case rel => exact ⟨by have hb_ := HBz.out; first | with_reducible exact hb_ | (go_grown; done) | exact bdrewN (by go_grown) _, j + 1, ii + 1, cn, (-1), by omega, by omega, by omega, by first | go_num | rfl, Lib.hid HN.out, rfl, rfl⟩
                    case measure => simp [intOf]; omega
                  · have HN : Hid (ccTo ds ss src n lo dn st (j + 1) = (cn, 0)) := Lib.hid (by rw [HS.out]; simp [stC, *])
                    go_wp2
                    go_roundw
                    case rel => exact ⟨by have hb_ := HBz.out; first | with_reducible exact hb_ | (go_grown; done) | exact bdrewN (by go_grown) _, j + 1, ii + 1, cn, 0, by omega, by omega, by omega, by first | go_num | rfl, Lib.hid HN.out, rfl, rfl⟩
                    case measure => simp [intOf]; omega
                  · have HN : Hid (ccTo ds ss src n lo dn st (j + 1) = (cn, 1)) := Lib.hid (by rw [HS.out]; simp [stC, *])
                    go_wp2
                    go_roundw
                    case rel => exact ⟨by have hb_ := HBz.out; first | with_reducible exact hb_ | (go_grown; done) | exact bdrewN (by go_grown) _, j + 1, ii + 1, cn, 1, by omega, by omega, by omega, by first | go_num | rfl, Lib.hid HN.out, rfl, rfl⟩
                    case measure => simp [intOf]; omega
        · obtain rfl : j = K := by omega
          have gx : ¬ (ii < (k : Int)) := by omega
          go_wp2
          go_ret2
          exact ⟨by rw [hcc.out] <;> rfl, HB4.out.trans ((HBr.out.trans (HBq.out.mono (by omega))).mono (by omega))⟩
end Go.Proofs.Ytopggkomkfjbfaa
