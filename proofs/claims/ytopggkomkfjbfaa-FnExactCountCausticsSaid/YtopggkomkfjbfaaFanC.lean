/- The cells of a fan, by the reference; the code of a fan, by the program. -/
import Derived.Test.YtopggkomkfjbfaaFan
import Derived.Test.YtopggkomkfjbfaaVdc
import Derived.Test.YtopggkomkfjbfaaCellR
import Derived.Deep.RegionHeld3
import Derived.BigRegion
import Derived.Deep.Cut
import Derived.Deep.DeepCutAuto
import Derived.IntWalk
namespace Go.Proofs.Ytopggkomkfjbfaa
set_option linter.unusedSimpArgs false
set_option linter.unusedVariables false
open Go.RowKit

theorem fan_ray {ds ss : List Int} {src n lo hi m : Int} (dn : Bool) (hp : profB ds ss = true) (hf : fanB n lo hi = true) (s0 : 0 ≤ src) (s1 : src ≤ (ds.length : Int) - 1) (h1 : lo ≤ m) (h2 : m ≤ hi) : RayOk ds ss src (mdC m n) (mdS m n dn) (mdH m n) :=
  rayOk_of hp (md_dir dn (fan_md hf h1 h2)) s0 s1
theorem fan_sign {n lo hi m m' : Int} (dn : Bool) (hf : fanB n lo hi = true) (h1 : lo ≤ m) (h2 : m ≤ hi) (h3 : lo ≤ m') (h4 : m' ≤ hi) : decide (0 < mdS m n dn) = decide (0 < mdS m' n dn) := by
  rw [md_sign dn (fan_md hf h1 h2), md_sign dn (fan_md hf h3 h4)]
theorem fan_all {w : World} {A : Option Addr} {c K : Nat} {n lo : Int} {dn : Bool} (h : KAt w A c 3 (fanL n lo dn K)) (hK : 0 < K) :
    ∃ b off, A = some ⟨b, off, none⟩ ∧ b < w.heap.size ∧ ∀ k : Nat, k < K → w.cell? ⟨b, off + k * 3, none⟩ = some (.int .i64 (mdC (lo + k) n)) ∧ w.cell? ⟨b, off + k * 3 + 1, none⟩ = some (.int .i64 (mdS (lo + k) n dn)) ∧ w.cell? ⟨b, off + k * 3 + 2, none⟩ = some (.int .i64 (mdH (lo + k) n)) := by
  obtain ⟨b, off, rfl, hb, -⟩ := fan_cells h hK
  refine ⟨b, off, rfl, hb, fun k hk => ?_⟩
  obtain ⟨b', off', e, -, q⟩ := fan_cells h hk
  simp only [Option.some.injEq, Addr.mk.injEq, and_true] at e
  obtain ⟨rfl, rfl⟩ := e
  exact q
/-- the cells (in memory) of what is known of a cell of a fan -/
def cellE (x y : Rs) (s : Bool) (lo hi : Int) : List Value := [.int .i64 x.k, .bool x.d, .int .i64 x.lo, .int .i64 x.hi, .int .i64 y.k, .bool y.d, .int .i64 y.lo, .int .i64 y.hi, .bool s, .int .i64 lo, .int .i64 hi]
def fcE (ds ss : List Int) (src n lo : Int) (dn : Bool) (st i : Nat) : List Value :=
  cellE (rwAt ds ss src (mdC (lo + (i : Int)) n) (mdS (lo + (i : Int)) n dn) (mdH (lo + (i : Int)) n) st) (rwAt ds ss src (mdC (lo + ((i : Int) + 1)) n) (mdS (lo + ((i : Int) + 1)) n dn) (mdH (lo + ((i : Int) + 1)) n) st) (sameN ds ss src (mdC (lo + (i : Int)) n) (mdS (lo + (i : Int)) n dn) (mdH (lo + (i : Int)) n) (mdC (lo + ((i : Int) + 1)) n) (mdS (lo + ((i : Int) + 1)) n dn) (mdH (lo + ((i : Int) + 1)) n) st) (clLo ds ss src (mdC (lo + (i : Int)) n) (mdS (lo + (i : Int)) n dn) (mdH (lo + (i : Int)) n) (mdC (lo + ((i : Int) + 1)) n) (mdS (lo + ((i : Int) + 1)) n dn) (mdH (lo + ((i : Int) + 1)) n) st) (clHi ds ss src (mdC (lo + (i : Int)) n) (mdS (lo + (i : Int)) n dn) (mdH (lo + (i : Int)) n) (mdC (lo + ((i : Int) + 1)) n) (mdS (lo + ((i : Int) + 1)) n dn) (mdH (lo + ((i : Int) + 1)) n) st)
def fcL (ds ss : List Int) (src n lo : Int) (dn : Bool) (st k : Nat) : List (List Value) := (List.range k).map fun i => fcE ds ss src n lo dn st i
theorem fcL_len (ds ss : List Int) (src n lo : Int) (dn : Bool) (st k : Nat) : (fcL ds ss src n lo dn st k).length = k := by rw [fcL, List.length_map, List.length_range]
theorem fcL_next (ds ss : List Int) (src n lo : Int) (dn : Bool) (st k : Nat) : fcL ds ss src n lo dn st (k + 1) = fcL ds ss src n lo dn st k ++ [fcE ds ss src n lo dn st k] := by rw [fcL, List.range_succ, List.map_append]; rfl
theorem fcL_11 (ds ss : List Int) (src n lo : Int) (dn : Bool) (st k : Nat) : ∀ x ∈ fcL ds ss src n lo dn st k, x.length = 11 := fun x h => by
  obtain ⟨i, -, rfl⟩ := List.mem_map.1 h; rfl
theorem infoCell : (Try.prog.info? 73).map (fun i => (i.zero, i.size, i.bytes)) = some (some (.agg #[.int .i64 0, .bool false, .int .i64 0, .int .i64 0, .int .i64 0, .bool false, .int .i64 0, .int .i64 0, .bool false, .int .i64 0, .int .i64 0]), 11, 88) := by kernel_rfl
/-- the code of a fan's arguments -/
@[irreducible] def faE (ds ss : List Int) (src n lo hi st : Int) : Int := if profB ds ss && fanB n lo hi then (if inB src 0 ((ds.length : Int) - 1) && inB st 0 100 then 0 else 2) else 1
theorem fa_zero {ds ss : List Int} {src n lo hi st : Int} (h : faE ds ss src n lo hi st = 0) : profB ds ss = true ∧ fanB n lo hi = true ∧ 0 ≤ src ∧ src ≤ (ds.length : Int) - 1 ∧ ∃ m : Nat, st = m ∧ m ≤ 100 := by
  unfold faE at h
  cases h1 : profB ds ss <;> cases h2 : fanB n lo hi <;> cases h4 : inB src 0 ((ds.length : Int) - 1) <;> cases h5 : inB st 0 100 <;> simp [h1, h2, h4, h5] at h
  have a := inB_bd h4
  have b := inB_bd h5
  exact ⟨rfl, rfl, a.1, a.2, st.toNat, by omega, by omega⟩
theorem fa_three (ds ss : List Int) (src n lo hi st : Int) : faE ds ss src n lo hi st = 0 ∨ faE ds ss src n lo hi st = 1 ∨ faE ds ss src n lo hi st = 2 := by
  unfold faE; repeat' split
  all_goals omega
theorem fa_l8 {ds ss : List Int} {src n lo hi st : Int} (dn : Bool) (hp : profB ds ss = true) (hf : fanB n lo hi = true) : l8E ds ss src (mdC (lo + (0 : Nat)) n) (mdS (lo + (0 : Nat)) n dn) (mdH (lo + (0 : Nat)) n) (mdC (lo + (0 : Nat)) n) (mdS (lo + (0 : Nat)) n dn) (mdH (lo + (0 : Nat)) n) st = faE ds ss src n lo hi st := by
  have k := fan_ok hf
  have hd := md_dir dn (fan_md hf (m := lo + (0 : Nat)) (by omega) (by have := k.l1; omega))
  have ha : alB (mdS (lo + (0 : Nat)) n dn) (mdS (lo + (0 : Nat)) n dn) = true := by unfold alB; exact beq_self_eq_true _
  unfold l8E ceE faE
  rw [hp, hd, hf, ha]
  simp
set_option maxHeartbeats 4000000 in
theorem fanCode_any (A1 A2 : Option Addr) (c1 c2 : Nat) (ds ss : List Int) (src n lo hi st : Int) (w : World) (h : ProfAt w A1 c1 A2 c2 ds ss) :
    Calls Try.prog 65 #[profV A1 ds.length c1 A2 ss.length c2, .int .i64 src, .int .i64 n, .int .i64 lo, .int .i64 hi, .int .i64 st] w fun e w' => e = .returned (.int .i64 (faE ds ss src n lo hi st)) ∧ Below w.heap.size w w' := by
  have hn := Nat.le_trans h.1.1 h.1.2.1
  have H := Lib.hid h; clear h
  rcases Bool.eq_false_or_eq_true (profB ds ss) with hp | hp
  rotate_left
  · have HE : Hid (faE ds ss src n lo hi st = 1) := by show _ = _; simp [faE, hp]
    go_enter Try.func65, Try.ntmps65
    go_wp2_with (first
      | (go_at_call 81; refine (implIsProfile_any _ _ _ _ _ _ _ (H.out.1.below (B := w.heap.size) (by first | exact Below.refl _ _ | (go_grown; done) | exact bdrewN (by go_grown) _) (Nat.le_refl _)) (H.out.2.below (B := w.heap.size) (by first | exact Below.refl _ _ | (go_grown; done) | exact bdrewN (by go_grown) _) (Nat.le_refl _))).mono ?_; rintro e w1 ⟨rfl, hb1⟩; obtain ⟨B1, hz1, q1, s1, t1, x1, y1, z1⟩ := bkeep (w := w) [w.heap.size] (by first | (simp; done) | (simp; omega)) (by first | (go_grown; done) | exact bdrewN (by go_grown) _) hb1; (try simp at hz1); clear hb1)
      | (go_at_call 106; refine (implIsFan_any _ _ _ _).mono ?_; rintro e w2 ⟨rfl, hb2⟩; obtain ⟨B2, hz2, q2, s2, t2, x2, y2, z2⟩ := bkeep (w := w) [w.heap.size] (by first | (simp; done) | (simp; omega)) (by first | (go_grown; done) | exact bdrewN (by go_grown) _) hb2; (try simp at hz2); clear hb2)
      | (go_at_call 83; refine (isKnot_any _ _ _ _ _ _ _ _ hn).mono ?_; rintro e w3 ⟨rfl, hb3⟩; obtain ⟨B3, hz3, q3, s3, t3, x3, y3, z3⟩ := bkeep (w := w) [w.heap.size] (by first | (simp; done) | (simp; omega)) (by first | (go_grown; done) | exact bdrewN (by go_grown) _) hb3; (try simp at hz3); clear hb3)
      | (go_at_call 84; refine (within_any _ _ _ _).mono ?_; rintro e w' ⟨rfl, rfl⟩))
    all_goals go_ret
    all_goals exact ⟨ret_int HE.out.symm, by first | exact (by first | with_reducible exact B3 | (go_grown; done) | with_reducible exact bdrewN B3 _ | (go_grown <;> first | with_reducible exact bdrewN B3 _ | with_reducible exact B3)) | exact (by first | with_reducible exact B2 | (go_grown; done) | with_reducible exact bdrewN B2 _ | (go_grown <;> first | with_reducible exact bdrewN B2 _ | with_reducible exact B2)) | exact (by first | with_reducible exact B1 | (go_grown; done) | with_reducible exact bdrewN B1 _ | (go_grown <;> first | with_reducible exact bdrewN B1 _ | with_reducible exact B1))⟩
  rcases Bool.eq_false_or_eq_true (fanB n lo hi) with hf | hf
  rotate_left
  · have HE : Hid (faE ds ss src n lo hi st = 1) := by show _ = _; simp [faE, hp, hf]
    go_enter Try.func65, Try.ntmps65
    go_wp2_with (first
      | (go_at_call 81; refine (implIsProfile_any _ _ _ _ _ _ _ (H.out.1.below (B := w.heap.size) (by first | exact Below.refl _ _ | (go_grown; done) | exact bdrewN (by go_grown) _) (Nat.le_refl _)) (H.out.2.below (B := w.heap.size) (by first | exact Below.refl _ _ | (go_grown; done) | exact bdrewN (by go_grown) _) (Nat.le_refl _))).mono ?_; rintro e w1 ⟨rfl, hb1⟩; obtain ⟨B1, hz1, q1, s1, t1, x1, y1, z1⟩ := bkeep (w := w) [w.heap.size] (by first | (simp; done) | (simp; omega)) (by first | (go_grown; done) | exact bdrewN (by go_grown) _) hb1; (try simp at hz1); clear hb1)
      | (go_at_call 106; refine (implIsFan_any _ _ _ _).mono ?_; rintro e w2 ⟨rfl, hb2⟩; obtain ⟨B2, hz2, q2, s2, t2, x2, y2, z2⟩ := bkeep (w := w) [w.heap.size] (by first | (simp; done) | (simp; omega)) (by first | (go_grown; done) | exact bdrewN (by go_grown) _) hb2; (try simp at hz2); clear hb2)
      | (go_at_call 83; refine (isKnot_any _ _ _ _ _ _ _ _ hn).mono ?_; rintro e w3 ⟨rfl, hb3⟩; obtain ⟨B3, hz3, q3, s3, t3, x3, y3, z3⟩ := bkeep (w := w) [w.heap.size] (by first | (simp; done) | (simp; omega)) (by first | (go_grown; done) | exact bdrewN (by go_grown) _) hb3; (try simp at hz3); clear hb3)
      | (go_at_call 84; refine (within_any _ _ _ _).mono ?_; rintro e w' ⟨rfl, rfl⟩))
    all_goals go_ret
    all_goals exact ⟨ret_int HE.out.symm, by first | exact (by first | with_reducible exact B3 | (go_grown; done) | with_reducible exact bdrewN B3 _ | (go_grown <;> first | with_reducible exact bdrewN B3 _ | with_reducible exact B3)) | exact (by first | with_reducible exact B2 | (go_grown; done) | with_reducible exact bdrewN B2 _ | (go_grown <;> first | with_reducible exact bdrewN B2 _ | with_reducible exact B2)) | exact (by first | with_reducible exact B1 | (go_grown; done) | with_reducible exact bdrewN B1 _ | (go_grown <;> first | with_reducible exact bdrewN B1 _ | with_reducible exact B1))⟩
  rcases Bool.eq_false_or_eq_true (inB src 0 ((ds.length : Int) - 1)) with hk | hk
  rotate_left
  · have HE : Hid (faE ds ss src n lo hi st = 2) := by show _ = _; simp [faE, hp, hf, hk]
    go_enter Try.func65, Try.ntmps65
    go_wp2_with (first
      | (go_at_call 81; refine (implIsProfile_any _ _ _ _ _ _ _ (H.out.1.below (B := w.heap.size) (by first | exact Below.refl _ _ | (go_grown; done) | exact bdrewN (by go_grown) _) (Nat.le_refl _)) (H.out.2.below (B := w.heap.size) (by first | exact Below.refl _ _ | (go_grown; done) | exact bdrewN (by go_grown) _) (Nat.le_refl _))).mono ?_; rintro e w1 ⟨rfl, hb1⟩; obtain ⟨B1, hz1, q1, s1, t1, x1, y1, z1⟩ := bkeep (w := w) [w.heap.size] (by first | (simp; done) | (simp; omega)) (by first | (go_grown; done) | exact bdrewN (by go_grown) _) hb1; (try simp at hz1); clear hb1)
      | (go_at_call 106; refine (implIsFan_any _ _ _ _).mono ?_; rintro e w2 ⟨rfl, hb2⟩; obtain ⟨B2, hz2, q2, s2, t2, x2, y2, z2⟩ := bkeep (w := w) [w.heap.size] (by first | (simp; done) | (simp; omega)) (by first | (go_grown; done) | exact bdrewN (by go_grown) _) hb2; (try simp at hz2); clear hb2)
      | (go_at_call 83; refine (isKnot_any _ _ _ _ _ _ _ _ hn).mono ?_; rintro e w3 ⟨rfl, hb3⟩; obtain ⟨B3, hz3, q3, s3, t3, x3, y3, z3⟩ := bkeep (w := w) [w.heap.size] (by first | (simp; done) | (simp; omega)) (by first | (go_grown; done) | exact bdrewN (by go_grown) _) hb3; (try simp at hz3); clear hb3)
      | (go_at_call 84; refine (within_any _ _ _ _).mono ?_; rintro e w' ⟨rfl, rfl⟩))
    all_goals go_ret
    all_goals exact ⟨ret_int HE.out.symm, by first | exact (by first | with_reducible exact B3 | (go_grown; done) | with_reducible exact bdrewN B3 _ | (go_grown <;> first | with_reducible exact bdrewN B3 _ | with_reducible exact B3)) | exact (by first | with_reducible exact B2 | (go_grown; done) | with_reducible exact bdrewN B2 _ | (go_grown <;> first | with_reducible exact bdrewN B2 _ | with_reducible exact B2)) | exact (by first | with_reducible exact B1 | (go_grown; done) | with_reducible exact bdrewN B1 _ | (go_grown <;> first | with_reducible exact bdrewN B1 _ | with_reducible exact B1))⟩
  rcases Bool.eq_false_or_eq_true (inB st 0 100) with hm | hm
  rotate_left
  · have HE : Hid (faE ds ss src n lo hi st = 2) := by show _ = _; simp [faE, hp, hf, hk, hm]
    go_enter Try.func65, Try.ntmps65
    go_wp2_with (first
      | (go_at_call 81; refine (implIsProfile_any _ _ _ _ _ _ _ (H.out.1.below (B := w.heap.size) (by first | exact Below.refl _ _ | (go_grown; done) | exact bdrewN (by go_grown) _) (Nat.le_refl _)) (H.out.2.below (B := w.heap.size) (by first | exact Below.refl _ _ | (go_grown; done) | exact bdrewN (by go_grown) _) (Nat.le_refl _))).mono ?_; rintro e w1 ⟨rfl, hb1⟩; obtain ⟨B1, hz1, q1, s1, t1, x1, y1, z1⟩ := bkeep (w := w) [w.heap.size] (by first | (simp; done) | (simp; omega)) (by first | (go_grown; done) | exact bdrewN (by go_grown) _) hb1; (try simp at hz1); clear hb1)
      | (go_at_call 106; refine (implIsFan_any _ _ _ _).mono ?_; rintro e w2 ⟨rfl, hb2⟩; obtain ⟨B2, hz2, q2, s2, t2, x2, y2, z2⟩ := bkeep (w := w) [w.heap.size] (by first | (simp; done) | (simp; omega)) (by first | (go_grown; done) | exact bdrewN (by go_grown) _) hb2; (try simp at hz2); clear hb2)
      | (go_at_call 83; refine (isKnot_any _ _ _ _ _ _ _ _ hn).mono ?_; rintro e w3 ⟨rfl, hb3⟩; obtain ⟨B3, hz3, q3, s3, t3, x3, y3, z3⟩ := bkeep (w := w) [w.heap.size] (by first | (simp; done) | (simp; omega)) (by first | (go_grown; done) | exact bdrewN (by go_grown) _) hb3; (try simp at hz3); clear hb3)
      | (go_at_call 84; refine (within_any _ _ _ _).mono ?_; rintro e w' ⟨rfl, rfl⟩))
    all_goals go_ret
    all_goals exact ⟨ret_int HE.out.symm, by first | exact (by first | with_reducible exact B3 | (go_grown; done) | with_reducible exact bdrewN B3 _ | (go_grown <;> first | with_reducible exact bdrewN B3 _ | with_reducible exact B3)) | exact (by first | with_reducible exact B2 | (go_grown; done) | with_reducible exact bdrewN B2 _ | (go_grown <;> first | with_reducible exact bdrewN B2 _ | with_reducible exact B2)) | exact (by first | with_reducible exact B1 | (go_grown; done) | with_reducible exact bdrewN B1 _ | (go_grown <;> first | with_reducible exact bdrewN B1 _ | with_reducible exact B1))⟩
  have HE : Hid (faE ds ss src n lo hi st = 0) := by show _ = _; simp [faE, hp, hf, hk, hm]
  go_enter Try.func65, Try.ntmps65
  go_wp2_with (first
      | (go_at_call 81; refine (implIsProfile_any _ _ _ _ _ _ _ (H.out.1.below (B := w.heap.size) (by first | exact Below.refl _ _ | (go_grown; done) | exact bdrewN (by go_grown) _) (Nat.le_refl _)) (H.out.2.below (B := w.heap.size) (by first | exact Below.refl _ _ | (go_grown; done) | exact bdrewN (by go_grown) _) (Nat.le_refl _))).mono ?_; rintro e w1 ⟨rfl, hb1⟩; obtain ⟨B1, hz1, q1, s1, t1, x1, y1, z1⟩ := bkeep (w := w) [w.heap.size] (by first | (simp; done) | (simp; omega)) (by first | (go_grown; done) | exact bdrewN (by go_grown) _) hb1; (try simp at hz1); clear hb1)
      | (go_at_call 106; refine (implIsFan_any _ _ _ _).mono ?_; rintro e w2 ⟨rfl, hb2⟩; obtain ⟨B2, hz2, q2, s2, t2, x2, y2, z2⟩ := bkeep (w := w) [w.heap.size] (by first | (simp; done) | (simp; omega)) (by first | (go_grown; done) | exact bdrewN (by go_grown) _) hb2; (try simp at hz2); clear hb2)
      | (go_at_call 83; refine (isKnot_any _ _ _ _ _ _ _ _ hn).mono ?_; rintro e w3 ⟨rfl, hb3⟩; obtain ⟨B3, hz3, q3, s3, t3, x3, y3, z3⟩ := bkeep (w := w) [w.heap.size] (by first | (simp; done) | (simp; omega)) (by first | (go_grown; done) | exact bdrewN (by go_grown) _) hb3; (try simp at hz3); clear hb3)
      | (go_at_call 84; refine (within_any _ _ _ _).mono ?_; rintro e w' ⟨rfl, rfl⟩))
  all_goals go_ret
  all_goals exact ⟨ret_int HE.out.symm, by first | exact (by first | with_reducible exact B3 | (go_grown; done) | with_reducible exact bdrewN B3 _ | (go_grown <;> first | with_reducible exact bdrewN B3 _ | with_reducible exact B3)) | exact (by first | with_reducible exact B2 | (go_grown; done) | with_reducible exact bdrewN B2 _ | (go_grown <;> first | with_reducible exact bdrewN B2 _ | with_reducible exact B2)) | exact (by first | with_reducible exact B1 | (go_grown; done) | with_reducible exact bdrewN B1 _ | (go_grown <;> first | with_reducible exact bdrewN B1 _ | with_reducible exact B1))⟩
theorem bcell {W w1 : World} (hb : Below W.heap.size W w1) : (∀ b o, b < W.heap.size → w1.cell? ⟨b, o, none⟩ = W.cell? ⟨b, o, none⟩) ∧ (∀ b o, b < W.heap.size → w1.frozen? ⟨b, o, none⟩ = W.frozen? ⟨b, o, none⟩) :=
  ⟨fun b o h => hb.cell (p := ⟨b, o, none⟩) h, fun b o h => hb.frozen (p := ⟨b, o, none⟩) h⟩
set_option maxRecDepth 4000 in
set_option maxHeartbeats 8000000 in
theorem l08Cells_ok (A1 A2 : Option Addr) (c1 c2 : Nat) (ds ss : List Int) (src n lo hi : Int) (dn : Bool) (st K : Nat) (w : World) (h : ProfAt w A1 c1 A2 c2 ds ss) (hp : profB ds ss = true) (hf : fanB n lo hi = true) (u0 : 0 ≤ src) (u1 : src ≤ (ds.length : Int) - 1) (hst : st ≤ 100) (hK1 : hi ≤ lo + K) (hK2 : lo + K ≤ hi) :
    Calls Try.prog 63 #[profV A1 ds.length c1 A2 ss.length c2, .int .i64 src, .int .i64 n, .int .i64 lo, .int .i64 hi, .bool dn, .int .i64 st] w fun e w' =>
      (∃ A' c', e = .returned (.tuple #[.slice A' K c', .int .i64 0]) ∧ ResK w' w.heap.size w'.heap.size A' c' 11 (fcL ds ss src n lo dn st K)) ∧ Below w.heap.size w w' := by
  obtain ⟨f1, f2, f3, f4, f5⟩ := fan_ok hf
  obtain ⟨M, hM1, hM2⟩ : ∃ M : Nat, M ≤ K + 1 ∧ K + 1 ≤ M := ⟨K + 1, Nat.le_refl _, Nat.le_refl _⟩
  have r0 := fan_ray (m := lo) dn hp hf u0 u1 (by omega) (by omega)
  have l0 := r0.l0; have l1 := r0.l1; clear r0
  have hz : faE ds ss src n lo hi st = 0 := by
    unfold faE
    have a : inB src 0 ((ds.length : Int) - 1) = true := by simp [inB]; omega
    have b : inB (st : Int) 0 100 = true := by simp [inB]; omega
    rw [hp, hf, a, b]; rfl
  have L8 := Lib.hid (show ∀ w, ProfAt w A1 c1 A2 c2 ds ss → Calls Try.prog 45 #[profV A1 ds.length c1 A2 ss.length c2, .int .i64 src, dirV (mdC (lo + (0 : Nat)) n) (mdS (lo + (0 : Nat)) n dn) (mdH (lo + (0 : Nat)) n), dirV (mdC (lo + (0 : Nat)) n) (mdS (lo + (0 : Nat)) n dn) (mdH (lo + (0 : Nat)) n), .int .i64 (st : Int)] w fun e w' => e = .returned (.int .i64 0) ∧ Below w.heap.size w w' from fun w h => by
    have q := l08Code_any A1 A2 c1 c2 ds ss src (mdC (lo + (0 : Nat)) n) (mdS (lo + (0 : Nat)) n dn) (mdH (lo + (0 : Nat)) n) (mdC (lo + (0 : Nat)) n) (mdS (lo + (0 : Nat)) n dn) (mdH (lo + (0 : Nat)) n) st w h
    rw [fa_l8 dn hp hf, hz] at q; exact q)
  have PI := Lib.hid (show ∀ w, ProfAt w A1 c1 A2 c2 ds ss → Calls Try.prog 75 #[profV A1 ds.length c1 A2 ss.length c2] w fun e w' => e = .returned (.bool true) ∧ Below w.heap.size w w' from fun w h => by have q := specIsProfile_any A1 A2 c1 c2 ds ss w h.1 h.2; rw [hp] at q; exact q)
  have FI := Lib.hid (show ∀ w, Calls Try.prog 104 #[.int .i64 n, .int .i64 lo, .int .i64 hi] w fun e w' => e = .returned (.bool true) ∧ Below w.heap.size w w' from fun w => by have q := specIsFan_any n lo hi w; rw [hf] at q; exact q)
  have H := Lib.hid h; have hp_ := Lib.hid hp; have hf_ := Lib.hid hf; clear h hz hp hf; have hp := Lib.hid hp_.out; have hf := Lib.hid hf_.out; clear hp_ hf_
  go_enter Try.func63, Try.ntmps63
  go_upto_region 3 with (first
    | (go_at_call 75; refine (PI.out _ (H.out.below (B := w.heap.size) (by first | exact Below.refl _ _ | (go_grown; done) | exact bdrewN (by go_grown) _) (Nat.le_refl _))).mono ?_; rintro e w1 ⟨rfl, hb1⟩; obtain ⟨B1, hz1, q1, s1, t1, x1, y1, z1⟩ := bkeep (w := w) [w.heap.size] (by first | (simp; done) | (simp; omega)) (by first | (go_grown; done) | exact bdrewN (by go_grown) _) hb1; (try simp at hz1); clear hb1)
    | (go_at_call 104; refine (FI.out _).mono ?_; rintro e w2 ⟨rfl, hb2⟩; obtain ⟨B2, hz2, q2, s2, t2, x2, y2, z2⟩ := bkeep (w := w) [w.heap.size] (by first | (simp; done) | (simp; omega)) (by first | (go_grown; done) | exact bdrewN (by go_grown) _) hb2; (try simp at hz2); clear hb2))
  go_upto_region 4 with (go_at_call 105; refine (l08Fan_any n lo hi dn M _ hf.out (by omega) (by omega)).mono ?_; rintro e w3 ⟨⟨Af, cf, rfl, RF⟩, hb3⟩; have VF := Lib.hid RF.at; clear RF; obtain ⟨B3, hz3, q3, s3, t3, x3, y3, z3⟩ := bkeep (w := w) [w.heap.size] (by first | (simp; done) | (simp; omega)) (by first | (go_grown; done) | exact bdrewN (by go_grown) _) hb3; (try simp at hz3); clear hb3)
  refine genS (S := fun w' => Below (w.heap.size) w w' ∧ w.heap.size < w'.heap.size ∧ w'.cell? ⟨w.heap.size, 0, none⟩ = some (.slice A1 ds.length c1) ∧ w'.cell? ⟨w.heap.size, 1, none⟩ = some (.slice A2 ss.length c2) ∧ KAt w' Af cf 3 (fanL n lo dn M)) ⟨(by first | exact B3 | (go_grown; done) | exact bdrewN B3 _), by first | omega | (simp; done) | (simp; omega), by simp [*, go_sem], by simp [*, go_sem], VF.out.below (B := w3.heap.size) (by first | exact Below.refl _ _ | (go_grown; done) | exact bdrewN (by go_grown) _) (Nat.le_refl _)⟩ ?_
  clear q3 s3 t3 x3 y3 z3 hz3 VF
  rintro w4 ⟨B4, lt4_0, c4_0, c4_1, GF⟩
  have z4 : w.heap.size ≤ w4.heap.size := B4.size
  have HP := Lib.hid (H.out.below B4 (Nat.le_refl _)); have HB4 := Lib.hid B4; clear B4
  obtain ⟨bf, of, rfl, hbf, fa⟩ := fan_all GF (by omega)
  have FA := Lib.hid fa; clear fa GF
  obtain ⟨a0, a1, a2⟩ := FA.out 0 (by omega)
  rw [Nat.zero_mul, Nat.add_zero] at a0 a1 a2
  have gK : (0 : Int) < (M : Int) := by omega
  have gKn : 0 < M := by omega
  generalize mdC (lo + ((0 : Nat) : Int)) n = c0 at *
  generalize mdS (lo + ((0 : Nat) : Int)) n dn = s0_ at *
  generalize mdH (lo + ((0 : Nat) : Int)) n = h0 at *
  go_region_held3 (fun w' => w'.cell? ⟨w.heap.size, 0, none⟩ = some (.slice A1 ds.length c1) ∧ w'.cell? ⟨w.heap.size, 1, none⟩ = some (.slice A2 ss.length c2) ∧ w'.cell? ⟨bf, of, none⟩ = some (.int .i64 c0) ∧ w'.cell? ⟨bf, of + 1, none⟩ = some (.int .i64 s0_) ∧ w'.cell? ⟨bf, of + 2, none⟩ = some (.int .i64 h0)) (first | (go_keep; done) | (simp [*, go_sem]; done))
    (first
      | (go_at_call 45; refine (L8.out _ (HP.out.below (B := w4.heap.size) (by first | exact Below.refl _ _ | (go_grown; done) | exact bdrewN (by go_grown) _) (Nat.le_refl _))).mono ?_; rintro e w5 ⟨rfl, hb5⟩; obtain ⟨hc5, hf5⟩ := bcell hb5; have hz5 := hb5.size; (try simp only [World.size_alloc, World.size_drew, size_set] at hz5); (try simp only [World.size_alloc, World.size_drew, size_set] at hc5); (try simp only [World.size_alloc, World.size_drew, size_set] at hf5); (try have ly5_0 : w.heap.size < w5.heap.size := (by omega)); (try have lx5_0 : w.heap.size ≤ w5.heap.size := (by omega)); (try have ly5_1 : bf < w5.heap.size := (by omega)); (try have lx5_1 : bf ≤ w5.heap.size := (by omega)); have BB := Lib.hid ((show Below w4.heap.size w4 _ from (by first | exact Below.refl _ _ | (go_grown; done) | exact bdrewN (by go_grown) _)).trans (hb5.mono (by first | omega | (simp; done) | (simp; omega)))); clear hb5))
  go_upto_region 8 with fail
  refine genS (S := fun w' => Below w4.heap.size w4 w' ∧ OwnK w' w4.heap.size 73 11 (.slice (some ⟨w5.heap.size, 0, none⟩) 0 0) []) ⟨by have hb_ := BB.out; first | with_reducible exact hb_ | (go_grown; done) | exact bdrewN (by go_grown) _, OwnK.zero (by first | omega | (have := BB.out.size; omega) | (have := BB.out.size; simp at *; omega))⟩ ?_
  rintro w6 ⟨B6, O6⟩
  clear a0 a1 a2 hc5 hf5
  have HB6 := Lib.hid B6; have HO6 := Lib.hid O6; clear B6 O6
  go_wp2
  go_loopw [18, 19] (fun v i wr => Below w4.heap.size w4 wr ∧ ∃ k : Nat, k ≤ K ∧ i = .int .i64 k ∧ OwnK wr w4.heap.size 73 11 v (fcL ds ss src n lo dn st k)) (fun _ i _ => K - (intOf i).toNat)
  case atStart => exact ⟨HB6.out, 0, by omega, rfl, HO6.out⟩
  case round =>
    obtain ⟨Br, k, hk, rfl, A', c', rfl, hc', hown, hall⟩ := hrel
    simp only [fcL_len] at hown ⊢
    have HO := Lib.hid hown; have HA := Lib.hid hall; clear hown hall
    have sr := Br.size
    have HBr := Lib.hid Br
    have r0 := (bAt Br (b := w.heap.size) (o := 0) (by omega)).trans c4_0
    have r1 := (bAt Br (b := w.heap.size) (o := 1) (by omega)).trans c4_1
    have HR := Lib.hid (HP.out.below Br (Nat.le_refl _))
    by_cases hlt : k < K
    · have ra := fan_ray (m := lo + (k : Int)) dn hp.out hf.out u0 u1 (by omega) (by omega)
      have rb := fan_ray (m := lo + ((k : Int) + 1)) dn hp.out hf.out u0 u1 (by omega) (by omega)
      have hs := fan_sign (m := lo + (k : Int)) (m' := lo + ((k : Int) + 1)) dn hf.out (by omega) (by omega) (by omega) (by omega)
      obtain ⟨a0, a1, a2⟩ := FA.out k (by omega)
      obtain ⟨a3, a4, a5⟩ := FA.out (k + 1) (by omega)
      have ek : ((k + 1 : Nat) : Int) = (k : Int) + 1 := by omega
      rw [ek] at a3 a4 a5
      have b0 := (bAt Br (b := bf) (o := of + k * 3) hbf).trans a0
      have b1 := (bAt Br (b := bf) (o := of + k * 3 + 1) hbf).trans a1
      have b2 := (bAt Br (b := bf) (o := of + k * 3 + 2) hbf).trans a2
      have b3 := (bAt Br (b := bf) (o := of + (k + 1) * 3) hbf).trans a3
      have b4 := (bAt Br (b := bf) (o := of + (k + 1) * 3 + 1) hbf).trans a4
      have b5 := (bAt Br (b := bf) (o := of + (k + 1) * 3 + 2) hbf).trans a5
      clear a0 a1 a2 a3 a4 a5 ek
      have hE : fcE ds ss src n lo dn st k = cellE (rwAt ds ss src (mdC (lo + (k : Int)) n) (mdS (lo + (k : Int)) n dn) (mdH (lo + (k : Int)) n) st) (rwAt ds ss src (mdC (lo + ((k : Int) + 1)) n) (mdS (lo + ((k : Int) + 1)) n dn) (mdH (lo + ((k : Int) + 1)) n) st) (sameN ds ss src (mdC (lo + (k : Int)) n) (mdS (lo + (k : Int)) n dn) (mdH (lo + (k : Int)) n) (mdC (lo + ((k : Int) + 1)) n) (mdS (lo + ((k : Int) + 1)) n dn) (mdH (lo + ((k : Int) + 1)) n) st) (clLo ds ss src (mdC (lo + (k : Int)) n) (mdS (lo + (k : Int)) n dn) (mdH (lo + (k : Int)) n) (mdC (lo + ((k : Int) + 1)) n) (mdS (lo + ((k : Int) + 1)) n dn) (mdH (lo + ((k : Int) + 1)) n) st) (clHi ds ss src (mdC (lo + (k : Int)) n) (mdS (lo + (k : Int)) n dn) (mdH (lo + (k : Int)) n) (mdC (lo + ((k : Int) + 1)) n) (mdS (lo + ((k : Int) + 1)) n dn) (mdH (lo + ((k : Int) + 1)) n) st) := rfl
      generalize mdC (lo + (k : Int)) n = c0 at *
      generalize mdS (lo + (k : Int)) n dn = s0_ at *
      generalize mdH (lo + (k : Int)) n = h0 at *
      generalize mdC (lo + ((k : Int) + 1)) n = c9 at *
      generalize mdS (lo + ((k : Int) + 1)) n dn = s9 at *
      generalize mdH (lo + ((k : Int) + 1)) n = h9 at *
      obtain ⟨xk, xd, xl, xh, hx⟩ := rs_cell (rwAt ds ss src c0 s0_ h0 st)
      obtain ⟨yk, yd, yl, yh, hy_⟩ := rs_cell (rwAt ds ss src c9 s9 h9 st)
      obtain ⟨sm, hsm⟩ : ∃ x, sameN ds ss src c0 s0_ h0 c9 s9 h9 st = x := ⟨_, rfl⟩
      obtain ⟨sl, hsl⟩ : ∃ x, clLo ds ss src c0 s0_ h0 c9 s9 h9 st = x := ⟨_, rfl⟩
      obtain ⟨sh, hsh⟩ : ∃ x, clHi ds ss src c0 s0_ h0 c9 s9 h9 st = x := ⟨_, rfl⟩
      rw [hx, hy_, hsm, hsl, hsh] at hE
      have LT := Lib.hid (show ∀ w, ProfAt w A1 c1 A2 c2 ds ss → Calls Try.prog 46 #[profV A1 ds.length c1 A2 ss.length c2, .int .i64 src, dirV c0 s0_ h0, dirV c9 s9 h9, .int .i64 (st : Int)] w fun e w' => e = .returned (.tuple #[cellV ⟨xk, xd, xl, xh⟩ ⟨yk, yd, yl, yh⟩ sm sl sh, .int .i64 0]) ∧ Below w.heap.size w w' from fun w h => by have q := l08Trace_any A1 A2 c1 c2 ds ss src c0 s0_ h0 c9 s9 h9 st w h ra rb hs hst; rw [hx, hy_, hsm, hsl, hsh] at q; exact q)
      have HE := Lib.hid hE; clear hE hx hy_ hsm hsl hsh ra rb hs Br
      have lbf : bf < wr.heap.size := by omega
      have lp : w.heap.size < wr.heap.size := by omega
      have lbf2 : bf ≤ wr.heap.size := by omega
      have lp2 : w.heap.size ≤ wr.heap.size := by omega
      have gk : (k : Int) + 1 < (M : Int) := by omega
      have gk2 : (k : Int) < (M : Int) := by omega
      have gk0 : (0 : Int) ≤ k := by omega
      have gk1 : (0 : Int) ≤ (k : Int) + 1 := by omega
      have gk3 : ((k : Int) + 1).toNat = k + 1 := by omega
      go_upto_region 11 with fail
      go_cut [20, 21] (fun p1 c1_ wx => ∃ rb1, p1 = .pointer (some ⟨rb1, 0, none⟩) ∧ c1_ = .int .i64 0 ∧ Below wr.heap.size wr wx ∧ wr.heap.size ≤ rb1 ∧ rb1 < wx.heap.size ∧ wx.cell? ⟨rb1, 0, none⟩ = some (.int .i64 xk) ∧ wx.cell? ⟨rb1, 1, none⟩ = some (.bool xd) ∧ wx.cell? ⟨rb1, 2, none⟩ = some (.int .i64 xl) ∧ wx.cell? ⟨rb1, 3, none⟩ = some (.int .i64 xh) ∧ wx.cell? ⟨rb1, 4, none⟩ = some (.int .i64 yk) ∧ wx.cell? ⟨rb1, 5, none⟩ = some (.bool yd) ∧ wx.cell? ⟨rb1, 6, none⟩ = some (.int .i64 yl) ∧ wx.cell? ⟨rb1, 7, none⟩ = some (.int .i64 yh) ∧ wx.cell? ⟨rb1, 8, none⟩ = some (.bool sm) ∧ wx.cell? ⟨rb1, 9, none⟩ = some (.int .i64 sl) ∧ wx.cell? ⟨rb1, 10, none⟩ = some (.int .i64 sh))
      case first =>
        have wk : IntKind.i64.wrap ((k : Int) + 1) = (k : Int) + 1 := IntWalk.i64_in _ (by omega)
        go_region_held3 (fun w' => w'.cell? ⟨w.heap.size, 0, none⟩ = some (.slice A1 ds.length c1) ∧ w'.cell? ⟨w.heap.size, 1, none⟩ = some (.slice A2 ss.length c2) ∧ w'.cell? ⟨bf, of + k * 3, none⟩ = some (.int .i64 c0) ∧ w'.cell? ⟨bf, of + k * 3 + 1, none⟩ = some (.int .i64 s0_) ∧ w'.cell? ⟨bf, of + k * 3 + 2, none⟩ = some (.int .i64 h0) ∧ w'.cell? ⟨bf, of + (k + 1) * 3, none⟩ = some (.int .i64 c9) ∧ w'.cell? ⟨bf, of + (k + 1) * 3 + 1, none⟩ = some (.int .i64 s9) ∧ w'.cell? ⟨bf, of + (k + 1) * 3 + 2, none⟩ = some (.int .i64 h9)) (first | (go_keep; done) | (simp [*, go_sem]; done))
          (first
            | (go_at_call 46; refine (LT.out _ (HR.out.below (B := wr.heap.size) (by first | exact Below.refl _ _ | (go_grown; done) | exact bdrewN (by go_grown) _) (Nat.le_refl _))).mono ?_; rintro e w7 ⟨rfl, hb7⟩; obtain ⟨hc7, hf7⟩ := bcell hb7; have hz7 := hb7.size; (try simp only [World.size_alloc, World.size_drew, size_set] at hz7); (try simp only [World.size_alloc, World.size_drew, size_set] at hc7); (try simp only [World.size_alloc, World.size_drew, size_set] at hf7); (try have ly7_0 : w.heap.size < w7.heap.size := (by omega)); (try have lx7_0 : w.heap.size ≤ w7.heap.size := (by omega)); (try have ly7_1 : bf < w7.heap.size := (by omega)); (try have lx7_1 : bf ≤ w7.heap.size := (by omega)); (try have lr7 : wr.heap.size < w7.heap.size := (by omega)); have BB := Lib.hid ((show Below wr.heap.size wr _ from (by first | exact Below.refl _ _ | (go_grown; done) | exact bdrewN (by go_grown) _)).trans (hb7.mono (by first | omega | (simp; done) | (simp; omega)))); clear hb7))
        all_goals go_wp2_with fail
        all_goals go_meet
        all_goals exact ⟨_, rfl, rfl, (by have hb_ := BB.out; first | with_reducible exact hb_ | (go_grown; done)), by first | omega | (simp; omega), by first | omega | (simp; done) | (simp; omega), by simp [*, go_sem], by simp [*, go_sem], by simp [*, go_sem], by simp [*, go_sem], by simp [*, go_sem], by simp [*, go_sem], by simp [*, go_sem], by simp [*, go_sem], by simp [*, go_sem], by simp [*, go_sem], by simp [*, go_sem]⟩
      case rest =>
        obtain ⟨rb1, rfl, rfl, hF⟩ := hcut
        revert hF; generalize wc = w8; rintro ⟨hb8, lo8, hi8, cc0, cc1, cc2, cc3, cc4, cc5, cc6, cc7, cc8, cc9, cc10⟩
        have K8 := Keep.of_below (lo := w4.heap.size) hb8
        have B8 := Lib.hid (HBr.out.trans (hb8.mono sr)); have sz8 : wr.heap.size ≤ w8.heap.size := hb8.size
        clear hb8 b0 b1 b2 b3 b4 b5 r0 r1
        go_wp2_with (at_builtin; refine appG rfl _ _ 109 rfl w4.heap.size 73 (.agg #[.int .i64 0, .bool false, .int .i64 0, .int .i64 0, .int .i64 0, .bool false, .int .i64 0, .int .i64 0, .bool false, .int .i64 0, .int .i64 0]) 11 88 Try.underlying109 infoCell rfl (by omega) (cellE ⟨xk, xd, xl, xh⟩ ⟨yk, yd, yl, yh⟩ sm sl sh) rfl (by intro u hu; simp [cellE] at hu; rcases hu with rfl | rfl | rfl | rfl | rfl | rfl | rfl | rfl | rfl | rfl | rfl <;> rfl) _ _ _ rfl _ rfl (own_keep HO.out (by repeat' (first | with_reducible exact K8 | with_reducible exact Keep.refl _ _ _ | with_reducible refine Keep.setB ?_ ?_ _ | with_reducible refine Keep.alloc ?_ ?_ _ | with_reducible refine Keep.drew ?_ | omega | (simp; done) | (simp; omega)))) ?_ ?_ ?_ ?_ ?_; (focus (intro j u hj; match j, hj with | 0, hj => (simp [cellE] at hj; subst hj; simp [*, go_sem]) | 1, hj => (simp [cellE] at hj; subst hj; simp [*, go_sem]) | 2, hj => (simp [cellE] at hj; subst hj; simp [*, go_sem]) | 3, hj => (simp [cellE] at hj; subst hj; simp [*, go_sem]) | 4, hj => (simp [cellE] at hj; subst hj; simp [*, go_sem]) | 5, hj => (simp [cellE] at hj; subst hj; simp [*, go_sem]) | 6, hj => (simp [cellE] at hj; subst hj; simp [*, go_sem]) | 7, hj => (simp [cellE] at hj; subst hj; simp [*, go_sem]) | 8, hj => (simp [cellE] at hj; subst hj; simp [*, go_sem]) | 9, hj => (simp [cellE] at hj; subst hj; simp [*, go_sem]) | 10, hj => (simp [cellE] at hj; subst hj; simp [*, go_sem]) | j + 11, hj => simp [cellE] at hj)); (focus (unfold maxLen; omega)); (focus omega); (focus (first | omega | (simp; omega))); intro v9 w9 hown9 hg9 _; have C9 := Below.grow (B := w4.heap.size) (w0 := w4) (by have hb_ := B8.out; first | with_reducible exact hb_ | (go_grown; done)) hg9 (fun b hb => by have := HO.out.lt b hb; omega) (by first | omega | (simp; omega)); clear hg9; obtain ⟨A14, c14, rfl, hc14⟩ := owns_form hown9; have O9 := Lib.hid hown9; clear hown9)
        go_roundw
        case rel => exact ⟨C9, k + 1, by omega, by first | done | go_num | rfl, OwnK.next (els := fcL ds ss src n lo dn st k) ((fcL_next _ _ _ _ _ _ _ _).trans (by rw [HE.out])) (by rw [fcL_len]; exact O9.out) HA.out rfl⟩
        case measure => simp [intOf]; omega
    · obtain rfl : k = K := by omega
      have gx : ¬ ((k : Int) + 1 < (M : Int)) := by omega
      go_wp2
      go_ret2
      refine ⟨⟨A', c', rfl, ?_⟩, HB4.out.trans (HBr.out.mono (by omega))⟩
      exact ((OwnK.res (n := k) (els := fcL ds ss src n lo dn st k) ⟨A', c', by rw [fcL_len], hc', by rw [fcL_len]; exact HO.out, HA.out⟩).2).mono (by omega) (Nat.le_refl _)
set_option maxHeartbeats 4000000 in
theorem l08Cells_bad (A1 A2 : Option Addr) (c1 c2 : Nat) (ds ss : List Int) (src n lo hi : Int) (dn : Bool) (st : Int) (w : World) (h : ProfAt w A1 c1 A2 c2 ds ss) (hc : faE ds ss src n lo hi st ≠ 0) :
    Calls Try.prog 63 #[profV A1 ds.length c1 A2 ss.length c2, .int .i64 src, .int .i64 n, .int .i64 lo, .int .i64 hi, .bool dn, .int .i64 st] w fun e w' => e = .returned (.tuple #[.slice none 0 0, .int .i64 (faE ds ss src n lo hi st)]) ∧ Below w.heap.size w w' := by
  rcases Bool.eq_false_or_eq_true (profB ds ss) with hp | hp
  rotate_left
  · have HE : Hid (faE ds ss src n lo hi st = 1) := by show _ = _; simp [faE, hp]
    have H := Lib.hid h; clear h hc
    go_enter Try.func63, Try.ntmps63
    go_wp2_with (go_at_call 75; refine (specIsProfile_any _ _ _ _ _ _ _ (H.out.1.below (B := w.heap.size) (by first | exact Below.refl _ _ | (go_grown; done) | exact bdrewN (by go_grown) _) (Nat.le_refl _)) (H.out.2.below (B := w.heap.size) (by first | exact Below.refl _ _ | (go_grown; done) | exact bdrewN (by go_grown) _) (Nat.le_refl _))).mono ?_; rintro e w1 ⟨rfl, hb1⟩; obtain ⟨B1, hz1, q1, s1, t1, x1, y1, z1⟩ := bkeep (w := w) [w.heap.size] (by first | (simp; done) | (simp; omega)) (by first | (go_grown; done) | exact bdrewN (by go_grown) _) hb1; (try simp at hz1); clear hb1)
    go_ret2
    exact ⟨by rw [HE.out] <;> rfl, (by first | with_reducible exact B1 | (go_grown; done) | with_reducible exact bdrewN B1 _ | (go_grown <;> first | with_reducible exact bdrewN B1 _ | with_reducible exact B1))⟩
  rcases Bool.eq_false_or_eq_true (fanB n lo hi) with hf | hf
  rotate_left
  · have HE : Hid (faE ds ss src n lo hi st = 1) := by show _ = _; simp [faE, hp, hf]
    have H := Lib.hid h; clear h hc
    go_enter Try.func63, Try.ntmps63
    go_wp2_with (first
      | (go_at_call 75; refine (specIsProfile_any _ _ _ _ _ _ _ (H.out.1.below (B := w.heap.size) (by first | exact Below.refl _ _ | (go_grown; done) | exact bdrewN (by go_grown) _) (Nat.le_refl _)) (H.out.2.below (B := w.heap.size) (by first | exact Below.refl _ _ | (go_grown; done) | exact bdrewN (by go_grown) _) (Nat.le_refl _))).mono ?_; rintro e w1 ⟨rfl, hb1⟩; obtain ⟨B1, hz1, q1, s1, t1, x1, y1, z1⟩ := bkeep (w := w) [w.heap.size] (by first | (simp; done) | (simp; omega)) (by first | (go_grown; done) | exact bdrewN (by go_grown) _) hb1; (try simp at hz1); clear hb1)
      | (go_at_call 104; refine (specIsFan_any _ _ _ _).mono ?_; rintro e w2 ⟨rfl, hb2⟩; obtain ⟨B2, hz2, q2, s2, t2, x2, y2, z2⟩ := bkeep (w := w) [w.heap.size] (by first | (simp; done) | (simp; omega)) (by first | (go_grown; done) | exact bdrewN (by go_grown) _) hb2; (try simp at hz2); clear hb2))
    go_ret2
    exact ⟨by rw [HE.out] <;> rfl, (by first | with_reducible exact B2 | (go_grown; done) | with_reducible exact bdrewN B2 _ | (go_grown <;> first | with_reducible exact bdrewN B2 _ | with_reducible exact B2))⟩
  obtain ⟨f1, f2, f3, f4, f5⟩ := fan_ok hf
  obtain ⟨M, hM1, hM2⟩ : ∃ M : Nat, hi + 1 ≤ lo + M ∧ lo + M ≤ hi + 1 := ⟨(hi + 1 - lo).toNat, by omega, by omega⟩
  have hc2 : (faE ds ss src n lo hi st != 0) = true := by simpa using hc
  have L8 := Lib.hid (show ∀ w, ProfAt w A1 c1 A2 c2 ds ss → Calls Try.prog 45 #[profV A1 ds.length c1 A2 ss.length c2, .int .i64 src, dirV (mdC (lo + (0 : Nat)) n) (mdS (lo + (0 : Nat)) n dn) (mdH (lo + (0 : Nat)) n), dirV (mdC (lo + (0 : Nat)) n) (mdS (lo + (0 : Nat)) n dn) (mdH (lo + (0 : Nat)) n), .int .i64 st] w fun e w' => e = .returned (.int .i64 (faE ds ss src n lo hi st)) ∧ Below w.heap.size w w' from fun w h => by
    have q := l08Code_any A1 A2 c1 c2 ds ss src (mdC (lo + (0 : Nat)) n) (mdS (lo + (0 : Nat)) n dn) (mdH (lo + (0 : Nat)) n) (mdC (lo + (0 : Nat)) n) (mdS (lo + (0 : Nat)) n dn) (mdH (lo + (0 : Nat)) n) st w h
    rw [fa_l8 dn hp hf] at q; exact q)
  have PI := Lib.hid (show ∀ w, ProfAt w A1 c1 A2 c2 ds ss → Calls Try.prog 75 #[profV A1 ds.length c1 A2 ss.length c2] w fun e w' => e = .returned (.bool true) ∧ Below w.heap.size w w' from fun w h => by have q := specIsProfile_any A1 A2 c1 c2 ds ss w h.1 h.2; rw [hp] at q; exact q)
  have FI := Lib.hid (show ∀ w, Calls Try.prog 104 #[.int .i64 n, .int .i64 lo, .int .i64 hi] w fun e w' => e = .returned (.bool true) ∧ Below w.heap.size w w' from fun w => by have q := specIsFan_any n lo hi w; rw [hf] at q; exact q)
  have H := Lib.hid h; have hf_ := Lib.hid hf; clear h hc hp hf; have hf := Lib.hid hf_.out; clear hf_
  go_enter Try.func63, Try.ntmps63
  go_upto_region 3 with (first
    | (go_at_call 75; refine (PI.out _ (H.out.below (B := w.heap.size) (by first | exact Below.refl _ _ | (go_grown; done) | exact bdrewN (by go_grown) _) (Nat.le_refl _))).mono ?_; rintro e w1 ⟨rfl, hb1⟩; obtain ⟨B1, hz1, q1, s1, t1, x1, y1, z1⟩ := bkeep (w := w) [w.heap.size] (by first | (simp; done) | (simp; omega)) (by first | (go_grown; done) | exact bdrewN (by go_grown) _) hb1; (try simp at hz1); clear hb1)
    | (go_at_call 104; refine (FI.out _).mono ?_; rintro e w2 ⟨rfl, hb2⟩; obtain ⟨B2, hz2, q2, s2, t2, x2, y2, z2⟩ := bkeep (w := w) [w.heap.size] (by first | (simp; done) | (simp; omega)) (by first | (go_grown; done) | exact bdrewN (by go_grown) _) hb2; (try simp at hz2); clear hb2))
  go_upto_region 4 with (go_at_call 105; refine (l08Fan_any n lo hi dn M _ hf.out hM1 hM2).mono ?_; rintro e w3 ⟨⟨Af, cf, rfl, RF⟩, hb3⟩; have VF := Lib.hid RF.at; clear RF; obtain ⟨B3, hz3, q3, s3, t3, x3, y3, z3⟩ := bkeep (w := w) [w.heap.size] (by first | (simp; done) | (simp; omega)) (by first | (go_grown; done) | exact bdrewN (by go_grown) _) hb3; (try simp at hz3); clear hb3)
  refine genS (S := fun w' => Below (w.heap.size) w w' ∧ w.heap.size < w'.heap.size ∧ w'.cell? ⟨w.heap.size, 0, none⟩ = some (.slice A1 ds.length c1) ∧ w'.cell? ⟨w.heap.size, 1, none⟩ = some (.slice A2 ss.length c2) ∧ KAt w' Af cf 3 (fanL n lo dn M)) ⟨(by first | exact B3 | (go_grown; done) | exact bdrewN B3 _), by first | omega | (simp; done) | (simp; omega), by simp [*, go_sem], by simp [*, go_sem], VF.out.below (B := w3.heap.size) (by first | exact Below.refl _ _ | (go_grown; done) | exact bdrewN (by go_grown) _) (Nat.le_refl _)⟩ ?_
  clear q3 s3 t3 x3 y3 z3 hz3 VF
  rintro w4 ⟨B4, lt4_0, c4_0, c4_1, GF⟩
  have z4 : w.heap.size ≤ w4.heap.size := B4.size
  have HP := Lib.hid (H.out.below B4 (Nat.le_refl _)); have HB4 := Lib.hid B4; clear B4
  obtain ⟨bf, of, rfl, hbf, fa⟩ := fan_all GF (by omega)
  obtain ⟨a0, a1, a2⟩ := fa 0 (by omega)
  clear fa GF
  rw [Nat.zero_mul, Nat.add_zero] at a0 a1 a2
  have gK : (0 : Int) < (M : Int) := by omega
  have gKn : 0 < M := by omega
  generalize mdC (lo + ((0 : Nat) : Int)) n = c0 at *
  generalize mdS (lo + ((0 : Nat) : Int)) n dn = s0_ at *
  generalize mdH (lo + ((0 : Nat) : Int)) n = h0 at *
  go_region_held3 (fun w' => w'.cell? ⟨w.heap.size, 0, none⟩ = some (.slice A1 ds.length c1) ∧ w'.cell? ⟨w.heap.size, 1, none⟩ = some (.slice A2 ss.length c2) ∧ w'.cell? ⟨bf, of, none⟩ = some (.int .i64 c0) ∧ w'.cell? ⟨bf, of + 1, none⟩ = some (.int .i64 s0_) ∧ w'.cell? ⟨bf, of + 2, none⟩ = some (.int .i64 h0)) (first | (go_keep; done) | (simp [*, go_sem]; done))
    (first
      | (go_at_call 45; refine (L8.out _ (HP.out.below (B := w4.heap.size) (by first | exact Below.refl _ _ | (go_grown; done) | exact bdrewN (by go_grown) _) (Nat.le_refl _))).mono ?_; rintro e w5 ⟨rfl, hb5⟩; obtain ⟨hc5, hf5⟩ := bcell hb5; have hz5 := hb5.size; (try simp only [World.size_alloc, World.size_drew, size_set] at hz5); (try simp only [World.size_alloc, World.size_drew, size_set] at hc5); (try simp only [World.size_alloc, World.size_drew, size_set] at hf5); (try have ly5_0 : w.heap.size < w5.heap.size := (by omega)); (try have lx5_0 : w.heap.size ≤ w5.heap.size := (by omega)); (try have ly5_1 : bf < w5.heap.size := (by omega)); (try have lx5_1 : bf ≤ w5.heap.size := (by omega)); have BB := Lib.hid ((show Below w4.heap.size w4 _ from (by first | exact Below.refl _ _ | (go_grown; done) | exact bdrewN (by go_grown) _)).trans (hb5.mono (by first | omega | (simp; done) | (simp; omega)))); clear hb5))
  go_wp2
  go_ret2
  exact ⟨rfl, HB4.out.trans ((show Below w4.heap.size w4 _ by have hb_ := BB.out; first | with_reducible exact hb_ | (go_grown; done) | exact bdrewN (by go_grown) _).mono (by omega))⟩
end Go.Proofs.Ytopggkomkfjbfaa
