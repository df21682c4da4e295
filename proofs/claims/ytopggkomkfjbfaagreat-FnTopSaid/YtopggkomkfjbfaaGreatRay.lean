/- Rays: their codes, the products at the knots, whether they can cross a knot. -/
import Derived.Test.YtopggkomkfjbfaaGreatDir
import Derived.Test.YtopggkomkfjbfaaGreatSpeed
import Derived.IntWalk
namespace Go.Proofs.YtopggkomkfjbfaaGreat
set_option linter.unusedSimpArgs false
set_option linter.unusedVariables false
open Go.RowKit

/-- the code of a ray and a knot -/
@[irreducible] def rayE (ds ss : List Int) (src co si hy k : Int) : Int :=
  if profB ds ss && dirB co si hy then (if inB src 0 ((ds.length : Int) - 1) && inB k 0 ((ds.length : Int) - 1) then 0 else 2) else 1

structure RayOk (ds ss : List Int) (src co si hy : Int) : Prop where
  prof : profB ds ss = true
  dir : dirB co si hy = true
  l0 : 2 ≤ ds.length
  l1 : ds.length ≤ 12
  l2 : ss.length ≤ ds.length
  l3 : ds.length ≤ ss.length
  s0 : 0 ≤ src
  s1 : src < ss.length
  h0 : 1 ≤ hy
  h1 : hy ≤ 1000
  c0 : 1 ≤ co
  c1 : co < hy
  sp : ∀ k : Int, 0 ≤ k → k < ss.length → 1300000 ≤ spd ss k ∧ spd ss k ≤ 1700000
  dp : ∀ k : Int, 0 ≤ k → k < ss.length → 0 ≤ spd ds k ∧ spd ds k ≤ 1000000
  up : ∀ k : Int, 0 ≤ k → k + 1 < ss.length → spd ds k < spd ds (k + 1)

theorem dir_ok {c s h : Int} (hd : dirB c s h = true) : 1 ≤ h ∧ h ≤ 1000 ∧ 1 ≤ c ∧ c < h := by
  have hh : inB h 1 1000 = true := by simp only [dirB, Bool.and_eq_true] at hd; exact hd.1.1.1.1.1
  obtain ⟨g1, g2⟩ := inB_bd hh
  have gc : 1 ≤ c ∧ c ≤ h := by
    rcases Decidable.em (1 ≤ c ∧ c ≤ h) with g | g
    · exact g
    · rw [dir_false1 hh g] at hd; cases hd
  have e : c * c + s * s = h * h := by simp only [dirB, Bool.and_eq_true] at hd; simpa using hd.1.2
  have s0 : s ≠ 0 := by simp only [dirB, Bool.and_eq_true] at hd; simpa using hd.1.1.2
  refine ⟨g1, g2, gc.1, ?_⟩
  rcases Int.lt_or_le c h with g | g
  · exact g
  · have : c = h := by omega
    subst this
    have : s * s = 0 := by omega
    rcases Int.mul_eq_zero.1 this with g | g <;> exact absurd g s0
theorem rayOk_of {ds ss : List Int} {src co si hy : Int} (hp : profB ds ss = true) (hd : dirB co si hy = true) (h0 : 0 ≤ src) (h1 : src ≤ (ds.length : Int) - 1) : RayOk ds ss src co si hy := by
  obtain ⟨l0, l1, l2, l3⟩ := prof_len hp
  obtain ⟨a, b, c, d⟩ := dir_ok hd
  refine ⟨hp, hd, l0, l1, l2, l3, h0, by omega, a, b, c, d, fun k k0 k1 => prof_speed hp (spd_some k0 k1), fun k k0 k1 => ?_, fun k k0 k1 => ?_⟩
  · have := ris_in (prof_ris hp) (spd_some (xs := ds) k0 (by omega)); omega
  · obtain ⟨n, rfl⟩ := Int.eq_ofNat_of_zero_le k0
    have e1 := spd_some (xs := ds) (k := (n : Int)) (by omega) (by omega)
    have e2 := spd_some (xs := ds) (k := (n : Int) + 1) (by omega) (by omega)
    rw [show ((n : Int) + 1).toNat = n + 1 by omega] at e2
    exact ris_lt (prof_ris hp) e1 e2
theorem ray_ok {ds ss : List Int} {src co si hy k : Int} (h : rayE ds ss src co si hy k = 0) : RayOk ds ss src co si hy ∧ 0 ≤ k ∧ k < ss.length := by
  unfold rayE at h
  split at h
  · rename_i h1
    split at h
    · rename_i h2
      simp only [Bool.and_eq_true] at h1 h2
      obtain ⟨a, b⟩ := inB_bd h2.1
      obtain ⟨c, d⟩ := inB_bd h2.2
      have r := rayOk_of h1.1 h1.2 a b
      exact ⟨r, c, by have := r.l3; omega⟩
    · omega
  · omega
theorem rayE_ok {ds ss : List Int} {src co si hy k : Int} (h : RayOk ds ss src co si hy) (k0 : 0 ≤ k) (k1 : k < ss.length) : rayE ds ss src co si hy k = 0 := by
  have := h.l2; have := h.l3; have := h.s0; have := h.s1
  simp [rayE, h.prof, h.dir, inB]; omega
theorem RayOk.bd {ds ss : List Int} {src co si hy : Int} (h : RayOk ds ss src co si hy) {a k : Int} (a0 : 1 ≤ a) (a1 : a ≤ 1000) (k0 : 0 ≤ k) (k1 : k < ss.length) : 1300000 ≤ a * spd ss k ∧ a * spd ss k ≤ 1700000000 := by
  obtain ⟨g0, g1⟩ := h.sp k k0 k1
  have e1 := Int.mul_le_mul a0 g0 (by omega) (by omega)
  have e2 := Int.mul_le_mul a1 g1 (by omega) (by omega)
  omega
theorem RayOk.whole {ds ss : List Int} {src co si hy : Int} (h : RayOk ds ss src co si hy) : 1300000 ≤ hy * spd ss src ∧ hy * spd ss src ≤ 1700000000 := h.bd h.h0 h.h1 h.s0 h.s1
theorem RayOk.part {ds ss : List Int} {src co si hy : Int} (h : RayOk ds ss src co si hy) {k : Int} (k0 : 0 ≤ k) (k1 : k < ss.length) : 1300000 ≤ co * spd ss k ∧ co * spd ss k ≤ 1700000000 := h.bd h.c0 (by have := h.c1; have := h.h1; omega) k0 k1

abbrev rayV (A1 : Option Addr) (n1 c1 : Nat) (A2 : Option Addr) (n2 c2 : Nat) (src co si hy : Int) : Value := .agg #[.slice A1 n1 c1, .slice A2 n2 c2, .int .i64 src, .int .i64 co, .int .i64 si, .int .i64 hy]
abbrev zprof : Value := .agg #[.slice none 0 0, .slice none 0 0]
abbrev zray : Value := rayV none 0 0 none 0 0 0 0 0 0
theorem gen6 {P : World → Prop} {w w0 : World} {a b c d e f : Value} (B : Below w.heap.size w w0) (h0 : w0.cell? ⟨w.heap.size, 0, none⟩ = some a) (h1 : w0.cell? ⟨w.heap.size, 1, none⟩ = some b) (h2 : w0.cell? ⟨w.heap.size, 2, none⟩ = some c)
    (h3 : w0.cell? ⟨w.heap.size, 3, none⟩ = some d) (h4 : w0.cell? ⟨w.heap.size, 4, none⟩ = some e) (h5 : w0.cell? ⟨w.heap.size, 5, none⟩ = some f)
    (h : ∀ w0, Below w.heap.size w w0 → w0.cell? ⟨w.heap.size, 0, none⟩ = some a → w0.cell? ⟨w.heap.size, 1, none⟩ = some b → w0.cell? ⟨w.heap.size, 2, none⟩ = some c → w0.cell? ⟨w.heap.size, 3, none⟩ = some d → w0.cell? ⟨w.heap.size, 4, none⟩ = some e → w0.cell? ⟨w.heap.size, 5, none⟩ = some f → P w0) : P w0 := h w0 B h0 h1 h2 h3 h4 h5

set_option maxHeartbeats 2000000 in
theorem newRay_ok (A1 A2 : Option Addr) (c1 c2 : Nat) (ds ss : List Int) (src co si hy : Int) (w : World) (h : ProfAt w A1 c1 A2 c2 ds ss) (r : RayOk ds ss src co si hy) :
    Calls Tryz.prog 56 #[profV A1 ds.length c1 A2 ss.length c2, .int .i64 src, dirV co si hy] w fun e w' => e = .returned (.tuple #[rayV A1 ds.length c1 A2 ss.length c2 src co si hy, .int .i64 0]) ∧ Below w.heap.size w w' := by
  have hn := Nat.le_trans h.1.1 h.1.2.1
  have hp := r.prof; have hd := r.dir
  have hk : inB src 0 ((ds.length : Int) - 1) = true := by have := r.s0; have := r.s1; have := r.l2; simp [inB]; omega
  have H := Lib.hid h; clear h r
  go_enter Tryz.func56, Tryz.ntmps56
  go_wp2_with (first
    | (go_at_call 39; refine (implIsProfile_any _ _ _ _ _ _ _ (H.out.1.below (B := w.heap.size) (by first | exact Below.refl _ _ | (go_grown; done) | exact bdrewN (by go_grown) _) (Nat.le_refl _)) (H.out.2.below (B := w.heap.size) (by first | exact Below.refl _ _ | (go_grown; done) | exact bdrewN (by go_grown) _) (Nat.le_refl _))).mono ?_; rintro e w1 ⟨rfl, hb1⟩; obtain ⟨B1, hz1, q1, s1, t1, x1, y1, z1⟩ := bkeep (w := w) [w.heap.size, w.heap.size + 1, w.heap.size + 2] (by first | (simp; done) | (simp; omega)) (by first | (go_grown; done) | exact bdrewN (by go_grown) _) hb1; (try simp at hz1); clear hb1)
    | (go_at_call 29; refine (implIsDirection_any _ _ _ _).mono ?_; rintro e w2 ⟨rfl, hb2⟩; obtain ⟨B2, hz2, q2, s2, t2, x2, y2, z2⟩ := bkeep (w := w) [w.heap.size, w.heap.size + 1, w.heap.size + 2] (by first | (simp; done) | (simp; omega)) (by first | (go_grown; done) | exact bdrewN (by go_grown) _) hb2; (try simp at hz2); clear hb2)
    | (go_at_call 41; refine (isKnot_any _ _ _ _ _ _ _ _ hn).mono ?_; rintro e w3 ⟨rfl, hb3⟩; obtain ⟨B3, hz3, q3, s3, t3, x3, y3, z3⟩ := bkeep (w := w) [w.heap.size, w.heap.size + 1, w.heap.size + 2] (by first | (simp; done) | (simp; omega)) (by first | (go_grown; done) | exact bdrewN (by go_grown) _) hb3; (try simp at hz3); clear hb3))
  refine bodyPost_ret (by simp [results, Tryz.results56, go_sem, *] <;> rfl) rfl ?_
  exact ⟨rfl, (by first | with_reducible exact B3 | (go_grown; done) | with_reducible exact bdrewN B3 _ | (go_grown <;> first | with_reducible exact bdrewN B3 _ | with_reducible exact B3))⟩
set_option maxHeartbeats 2000000 in
theorem newRay_bad (A1 A2 : Option Addr) (c1 c2 : Nat) (ds ss : List Int) (src co si hy : Int) (w : World) (h : ProfAt w A1 c1 A2 c2 ds ss) (hb : rayE ds ss src co si hy 0 ≠ 0) :
    Calls Tryz.prog 56 #[profV A1 ds.length c1 A2 ss.length c2, .int .i64 src, dirV co si hy] w fun e w' => e = .returned (.tuple #[zray, .int .i64 (rayE ds ss src co si hy 0)]) ∧ Below w.heap.size w w' := by
  have hn := Nat.le_trans h.1.1 h.1.2.1
  have H := Lib.hid h; clear h
  by_cases hp : profB ds ss = true
  · by_cases hd : dirB co si hy = true
    · have hk : inB src 0 ((ds.length : Int) - 1) = false := by
        rcases Bool.eq_false_or_eq_true (inB src 0 ((ds.length : Int) - 1)) with e | e
        · obtain ⟨a, b⟩ := inB_bd e
          have r := rayOk_of hp hd a b
          exact absurd (rayE_ok r (Int.le_refl 0) (by have := r.l0; have := r.l3; omega)) hb
        · exact e
      have HE : Hid (rayE ds ss src co si hy 0 = 2) := by show _ = _; simp [rayE, hp, hd, hk]
      clear hb
      go_enter Tryz.func56, Tryz.ntmps56
      go_wp2_with (first
        | (go_at_call 39; refine (implIsProfile_any _ _ _ _ _ _ _ (H.out.1.below (B := w.heap.size) (by first | exact Below.refl _ _ | (go_grown; done) | exact bdrewN (by go_grown) _) (Nat.le_refl _)) (H.out.2.below (B := w.heap.size) (by first | exact Below.refl _ _ | (go_grown; done) | exact bdrewN (by go_grown) _) (Nat.le_refl _))).mono ?_; rintro e w1 ⟨rfl, hb1⟩; obtain ⟨B1, hz1, q1, s1, t1, x1, y1, z1⟩ := bkeep (w := w) [w.heap.size, w.heap.size + 1, w.heap.size + 2] (by first | (simp; done) | (simp; omega)) (by first | (go_grown; done) | exact bdrewN (by go_grown) _) hb1; (try simp at hz1); clear hb1)
        | (go_at_call 29; refine (implIsDirection_any _ _ _ _).mono ?_; rintro e w2 ⟨rfl, hb2⟩; obtain ⟨B2, hz2, q2, s2, t2, x2, y2, z2⟩ := bkeep (w := w) [w.heap.size, w.heap.size + 1, w.heap.size + 2] (by first | (simp; done) | (simp; omega)) (by first | (go_grown; done) | exact bdrewN (by go_grown) _) hb2; (try simp at hz2); clear hb2)
        | (go_at_call 41; refine (isKnot_any _ _ _ _ _ _ _ _ hn).mono ?_; rintro e w3 ⟨rfl, hb3⟩; obtain ⟨B3, hz3, q3, s3, t3, x3, y3, z3⟩ := bkeep (w := w) [w.heap.size, w.heap.size + 1, w.heap.size + 2] (by first | (simp; done) | (simp; omega)) (by first | (go_grown; done) | exact bdrewN (by go_grown) _) hb3; (try simp at hz3); clear hb3))
      refine bodyPost_ret (by simp [results, Tryz.results56, go_sem, *] <;> rfl) rfl ?_
      exact ⟨by rw [HE.out], (by first | with_reducible exact B3 | (go_grown; done) | with_reducible exact bdrewN B3 _ | (go_grown <;> first | with_reducible exact bdrewN B3 _ | with_reducible exact B3))⟩
    · have hd' : dirB co si hy = false := by simpa using hd
      have HE : Hid (rayE ds ss src co si hy 0 = 1) := by show _ = _; simp [rayE, hp, hd']
      clear hb hd
      go_enter Tryz.func56, Tryz.ntmps56
      go_wp2_with (first
        | (go_at_call 39; refine (implIsProfile_any _ _ _ _ _ _ _ (H.out.1.below (B := w.heap.size) (by first | exact Below.refl _ _ | (go_grown; done) | exact bdrewN (by go_grown) _) (Nat.le_refl _)) (H.out.2.below (B := w.heap.size) (by first | exact Below.refl _ _ | (go_grown; done) | exact bdrewN (by go_grown) _) (Nat.le_refl _))).mono ?_; rintro e w1 ⟨rfl, hb1⟩; obtain ⟨B1, hz1, q1, s1, t1, x1, y1, z1⟩ := bkeep (w := w) [w.heap.size, w.heap.size + 1, w.heap.size + 2] (by first | (simp; done) | (simp; omega)) (by first | (go_grown; done) | exact bdrewN (by go_grown) _) hb1; (try simp at hz1); clear hb1)
        | (go_at_call 29; refine (implIsDirection_any _ _ _ _).mono ?_; rintro e w2 ⟨rfl, hb2⟩; obtain ⟨B2, hz2, q2, s2, t2, x2, y2, z2⟩ := bkeep (w := w) [w.heap.size, w.heap.size + 1, w.heap.size + 2] (by first | (simp; done) | (simp; omega)) (by first | (go_grown; done) | exact bdrewN (by go_grown) _) hb2; (try simp at hz2); clear hb2))
      refine bodyPost_ret (by simp [results, Tryz.results56, go_sem, *] <;> rfl) rfl ?_
      exact ⟨by rw [HE.out], (by first | with_reducible exact B2 | (go_grown; done) | with_reducible exact bdrewN B2 _ | (go_grown <;> first | with_reducible exact bdrewN B2 _ | with_reducible exact B2))⟩
  · have hp' : profB ds ss = false := by simpa using hp
    have HE : Hid (rayE ds ss src co si hy 0 = 1) := by show _ = _; simp [rayE, hp']
    clear hb hp
    go_enter Tryz.func56, Tryz.ntmps56
    go_wp2_with (go_at_call 39; refine (implIsProfile_any _ _ _ _ _ _ _ (H.out.1.below (B := w.heap.size) (by first | exact Below.refl _ _ | (go_grown; done) | exact bdrewN (by go_grown) _) (Nat.le_refl _)) (H.out.2.below (B := w.heap.size) (by first | exact Below.refl _ _ | (go_grown; done) | exact bdrewN (by go_grown) _) (Nat.le_refl _))).mono ?_; rintro e w1 ⟨rfl, hb1⟩; obtain ⟨B1, hz1, q1, s1, t1, x1, y1, z1⟩ := bkeep (w := w) [w.heap.size, w.heap.size + 1, w.heap.size + 2] (by first | (simp; done) | (simp; omega)) (by first | (go_grown; done) | exact bdrewN (by go_grown) _) hb1; (try simp at hz1); clear hb1)
    refine bodyPost_ret (by simp [results, Tryz.results56, go_sem, *] <;> rfl) rfl ?_
    exact ⟨by rw [HE.out], (by first | with_reducible exact B1 | (go_grown; done) | with_reducible exact bdrewN B1 _ | (go_grown <;> first | with_reducible exact bdrewN B1 _ | with_reducible exact B1))⟩

set_option maxHeartbeats 1000000 in
theorem whole_any (A1 A2 : Option Addr) (n1 c1 c2 : Nat) (ss : List Int) (src co si hy : Int) (w : World) (h : IntsAt w A2 c2 ss) (h0 : 0 ≤ src) (h1 : src < ss.length) (b : 1300000 ≤ hy * spd ss src ∧ hy * spd ss src ≤ 1700000000) :
    Calls Tryz.prog 99 #[rayV A1 n1 c1 A2 ss.length c2 src co si hy] w fun e w' => e = .returned (.int .i64 (hy * spd ss src)) ∧ Below w.heap.size w w' := by
  obtain ⟨k, rfl⟩ := Int.eq_ofNat_of_zero_le h0
  obtain ⟨b0, b1⟩ := b
  obtain ⟨p, off, x, rfl, hb, hxk, hc⟩ := h.at_ (k := k) (by omega)
  have k0 : (0 : Int) ≤ (k : Int) := by omega
  have HS := Lib.hid (spd_at hxk)
  rw [HS.out] at b0 b1
  clear hxk h
  go_enter Tryz.func99, Tryz.ntmps99
  go_wp2_with fail
  refine gen6 (w := w) (a := .slice A1 n1 c1) (b := .slice (some ⟨p, off, none⟩) ss.length c2) (c := .int .i64 k) (d := .int .i64 co) (e := .int .i64 si) (f := .int .i64 hy) (by go_grown) (by simp [go_sem]) (by simp [go_sem]) (by simp [go_sem]) (by simp [go_sem]) (by simp [go_sem]) (by simp [go_sem]) (fun w0 B0 r0 r1 r2 r3 r4 r5 => ?_)
  have hc' := (B0.cell (p := ⟨p, off + k, none⟩) hb).trans hc
  have W1 : IntKind.i64.wrap (hy * x) = hy * x := IntWalk.i64_in _ (by omega)
  go_quiet (fail)
  clear W1
  go_wp2
  go_ret
  exact ⟨ret_int (by rw [HS.out]), bdrewN B0 _⟩
set_option maxHeartbeats 1000000 in
theorem part_any (A1 A2 : Option Addr) (n1 c1 c2 : Nat) (ss : List Int) (src co si hy k : Int) (w : World) (h : IntsAt w A2 c2 ss) (h0 : 0 ≤ k) (h1 : k < ss.length) (b : 1300000 ≤ co * spd ss k ∧ co * spd ss k ≤ 1700000000) :
    Calls Tryz.prog 94 #[rayV A1 n1 c1 A2 ss.length c2 src co si hy, .int .i64 k] w fun e w' => e = .returned (.int .i64 (co * spd ss k)) ∧ Below w.heap.size w w' := by
  obtain ⟨k, rfl⟩ := Int.eq_ofNat_of_zero_le h0
  obtain ⟨b0, b1⟩ := b
  obtain ⟨p, off, x, rfl, hb, hxk, hc⟩ := h.at_ (k := k) (by omega)
  have k0 : (0 : Int) ≤ (k : Int) := by omega
  have HS := Lib.hid (spd_at hxk)
  rw [HS.out] at b0 b1
  clear hxk h
  go_enter Tryz.func94, Tryz.ntmps94
  go_wp2_with fail
  refine gen6 (w := w) (a := .slice A1 n1 c1) (b := .slice (some ⟨p, off, none⟩) ss.length c2) (c := .int .i64 src) (d := .int .i64 co) (e := .int .i64 si) (f := .int .i64 hy) (by go_grown) (by simp [go_sem]) (by simp [go_sem]) (by simp [go_sem]) (by simp [go_sem]) (by simp [go_sem]) (by simp [go_sem]) (fun w0 B0 r0 r1 r2 r3 r4 r5 => ?_)
  have hc' := (B0.cell (p := ⟨p, off + k, none⟩) hb).trans hc
  have W1 : IntKind.i64.wrap (co * x) = co * x := IntWalk.i64_in _ (by omega)
  go_quiet (fail)
  clear W1
  go_wp2
  go_ret
  exact ⟨ret_int (by rw [HS.out]), bdrewN B0 _⟩
set_option maxHeartbeats 1000000 in
theorem canCross_any (A1 A2 : Option Addr) (n1 c1 c2 : Nat) (ds ss : List Int) (src co si hy k : Int) (w : World) (h : IntsAt w A2 c2 ss) (r : RayOk ds ss src co si hy) (h0 : 0 ≤ k) (h1 : k < ss.length) :
    Calls Tryz.prog 89 #[rayV A1 n1 c1 A2 ss.length c2 src co si hy, .int .i64 k] w fun e w' => e = .returned (.bool (decide (co * spd ss k < hy * spd ss src))) ∧ Below w.heap.size w w' := by
  have H := Lib.hid h; clear h
  have R := Lib.hid r; clear r
  go_enter Tryz.func89, Tryz.ntmps89
  go_wp2_with fail
  go_region_held3 (fun w' => w'.cell? ⟨w.heap.size, 0, none⟩ = some (.slice A1 n1 c1) ∧ w'.cell? ⟨w.heap.size, 1, none⟩ = some (.slice A2 ss.length c2) ∧ w'.cell? ⟨w.heap.size, 2, none⟩ = some (.int .i64 src) ∧ w'.cell? ⟨w.heap.size, 3, none⟩ = some (.int .i64 co) ∧ w'.cell? ⟨w.heap.size, 4, none⟩ = some (.int .i64 si) ∧ w'.cell? ⟨w.heap.size, 5, none⟩ = some (.int .i64 hy)) (go_keep)
    (first
      | (go_at_call 94; refine (part_any _ _ _ _ _ _ _ _ _ _ _ _ (H.out.below (B := w.heap.size) (by first | exact Below.refl _ _ | (go_grown; done) | exact bdrewN (by go_grown) _) (Nat.le_refl _)) h0 h1 (R.out.part h0 h1)).mono ?_; rintro e w1 ⟨rfl, hb1⟩; obtain ⟨B1, hz1, q1, s1, t1, x1, y1, z1⟩ := bkeep (w := w) [w.heap.size] (by first | (simp; done) | (simp; omega)) (by first | (go_grown; done) | exact bdrewN (by go_grown) _) hb1; (try simp at hz1); clear hb1)
      | (go_at_call 99; refine (whole_any _ _ _ _ _ _ _ _ _ _ _ (H.out.below (B := w.heap.size) (by first | exact Below.refl _ _ | (go_grown; done) | exact bdrewN (by go_grown) _) (Nat.le_refl _)) R.out.s0 R.out.s1 R.out.whole).mono ?_; rintro e w2 ⟨rfl, hb2⟩; obtain ⟨B2, hz2, q2, s2, t2, x2, y2, z2⟩ := bkeep (w := w) [w.heap.size] (by first | (simp; done) | (simp; omega)) (by first | (go_grown; done) | exact bdrewN (by go_grown) _) hb2; (try simp at hz2); clear hb2))
  go_wp2
  go_ret
  exact ⟨rfl, (by first | with_reducible exact B2 | (go_grown; done) | with_reducible exact bdrewN B2 _ | (go_grown <;> first | with_reducible exact bdrewN B2 _ | with_reducible exact B2))⟩
end Go.Proofs.YtopggkomkfjbfaaGreat
