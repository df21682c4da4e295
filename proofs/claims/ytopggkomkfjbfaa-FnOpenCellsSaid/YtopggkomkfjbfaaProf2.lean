/- Profiles copied, compared, marked, held; their size. -/
import Derived.Test.YtopggkomkfjbfaaProf
namespace Go.Proofs.Ytopggkomkfjbfaa
set_option linter.unusedSimpArgs false
set_option linter.unusedVariables false
open Go.RowKit

/-- two lists in blocks of their own, from lo up to hi, apart from each other -/
def ResP (w : World) (lo hi : Nat) (A1 : Option Addr) (c1 : Nat) (A2 : Option Addr) (c2 : Nat) (ds ss : List Int) : Prop :=
  ResI w lo hi A1 c1 ds ∧ ResI w lo hi A2 c2 ss ∧ (ds ≠ [] → ss ≠ [] → ∀ b o b' o', A1 = some ⟨b, o, none⟩ → A2 = some ⟨b', o', none⟩ → b ≠ b')
def ProfAt (w : World) (A1 : Option Addr) (c1 : Nat) (A2 : Option Addr) (c2 : Nat) (ds ss : List Int) : Prop := IntsAt w A1 c1 ds ∧ IntsAt w A2 c2 ss
theorem ProfAt.below {w w1 : World} {B : Nat} {A1 A2 : Option Addr} {c1 c2 : Nat} {ds ss : List Int} (h : ProfAt w A1 c1 A2 c2 ds ss) (hb : Below B w w1) (hB : w.heap.size ≤ B) : ProfAt w1 A1 c1 A2 c2 ds ss :=
  ⟨h.1.below hb hB, h.2.below hb hB⟩

section
variable {w w1 : World} {lo hi lo' hi' B : Nat} {A1 A2 : Option Addr} {c1 c2 : Nat} {ds ss : List Int}
theorem ResP.at (h : ResP w lo hi A1 c1 A2 c2 ds ss) : ProfAt w A1 c1 A2 c2 ds ss := ⟨h.1.at, h.2.1.at⟩
theorem ResP.below (h : ResP w lo hi A1 c1 A2 c2 ds ss) (hb : Below B w w1) (hB : hi ≤ B) : ResP w1 lo hi A1 c1 A2 c2 ds ss := ⟨h.1.below hb hB, h.2.1.below hb hB, h.2.2⟩
theorem ResP.chg (h : ResP w lo hi A1 c1 A2 c2 ds ss) (hb : Chg lo' hi' w w1) (hB : hi ≤ lo' ∨ hi' ≤ lo) : ResP w1 lo hi A1 c1 A2 c2 ds ss := ⟨h.1.chg hb hB, h.2.1.chg hb hB, h.2.2⟩
theorem ResP.mono (h : ResP w lo hi A1 c1 A2 c2 ds ss) (h1 : lo' ≤ lo) (h2 : hi ≤ hi') : ResP w lo' hi' A1 c1 A2 c2 ds ss := ⟨h.1.mono h1 h2, h.2.1.mono h1 h2, h.2.2⟩
theorem ResP.nil (w : World) (lo hi : Nat) (A1 A2 : Option Addr) : ResP w lo hi A1 0 A2 0 [] [] := ⟨ResI.nil _ _ _ _ _ (by omega), ResI.nil _ _ _ _ _ (by omega), fun h => absurd rfl h⟩
theorem ResP.mk_ {mid : Nat} (h1 : ResI w lo mid A1 c1 ds) (h2 : ResI w mid hi A2 c2 ss) (ha : lo ≤ mid) (hb : mid ≤ hi) : ResP w lo hi A1 c1 A2 c2 ds ss := by
  refine ⟨h1.mono (Nat.le_refl _) hb, h2.mono ha (Nat.le_refl _), fun n1 n2 b o b' o' e1 e2 => ?_⟩
  rcases h1.2.2 with hn | ⟨x, ox, ex, l1, l2, _⟩
  · exact absurd hn n1
  · rcases h2.2.2 with hn | ⟨y, oy, ey, l3, l4, _⟩
    · exact absurd hn n2
    · rw [e1] at ex; rw [e2] at ey
      simp only [Option.some.injEq, Addr.mk.injEq, and_true] at ex ey
      omega
end

set_option maxHeartbeats 1000000 in
theorem toProfile_any (A1 A2 : Option Addr) (c1 c2 : Nat) (ds ss : List Int) (w : World) (h1 : IntsAt w A1 c1 ds) (h2 : IntsAt w A2 c2 ss) (l1 : ds.length ≤ 1048576) (l2 : ss.length ≤ 1048576) :
    Calls Try.prog 14 #[profV A1 ds.length c1 A2 ss.length c2] w fun e w' =>
      (∃ g g', e = .returned (profV (some ⟨g, 0, none⟩) ds.length ds.length (some ⟨g', 0, none⟩) ss.length ss.length) ∧ ResP w' w.heap.size w'.heap.size (some ⟨g, 0, none⟩) ds.length (some ⟨g', 0, none⟩) ss.length ds ss) ∧ Below w.heap.size w w' := by
  have H1 := Lib.hid h1; have H2 := Lib.hid h2; clear h1 h2
  go_enter Try.func14, Try.ntmps14
  go_wp2_with fail
  refine (toInt64S_any _ _ _ _ (H1.out.below (B := w.heap.size) (by go_grown) (Nat.le_refl _)) l1).mono ?_; rintro e w1 ⟨⟨g1, rfl, R1⟩, hb1⟩
  obtain ⟨B1, hz1, q1, s1, t1, x1, y1, z1⟩ := bkeep (w := w) [w.heap.size, w.heap.size + 1, w.heap.size + 2] (by first | (simp; done) | (simp; omega)) (by first | (go_grown; done) | exact bdrewN (by go_grown) _) hb1; (try simp at hz1); clear hb1
  have K1 := Lib.hid R1; clear R1
  go_wp2_with fail
  refine (toInt64S_any _ _ _ _ (H2.out.below (B := w.heap.size) (by go_grown) (Nat.le_refl _)) l2).mono ?_; rintro e w2 ⟨⟨g2, rfl, R2⟩, hb2⟩
  have T2 := Lib.hid hb2
  obtain ⟨B2, hz2, q2, s2, t2, x2, y2, z2⟩ := bkeep (w := w) [w.heap.size, w.heap.size + 1, w.heap.size + 2] (by first | (simp; done) | (simp; omega)) (by first | (go_grown; done) | exact bdrewN (by go_grown) _) hb2; (try simp at hz2); clear hb2
  have K2 := Lib.hid R2; clear R2
  go_wp2_with fail
  refine bodyPost_ret (by simp [results, Try.results14, go_sem, *] <;> rfl) rfl ?_
  have e1 := K1.out; have e2 := K2.out; have e3 := T2.out
  simp only [size_set, World.size_alloc] at e1 e2 e3
  refine ⟨⟨g1, g2, rfl, ResP.mk_ ((e1.kept ?_).mono (by omega) (Nat.le_refl _)) ((e2.kept ?_).mono (Nat.le_refl _) (by simp only [size_set]; omega)) (by omega) (by simp only [size_set]; omega)⟩, by go_grown⟩
  · exact ((((Keep.refl _ _ _).set (by simp) _).below e3 (Nat.le_refl _)).set (by simp) _).set (by simp) _ |>.set (by simp) _
  · exact (((Keep.refl _ _ _).set (by simp; omega) _).set (by simp; omega) _).set (by simp; omega) _

set_option maxHeartbeats 1000000 in
theorem eqProfile_same (A1 A2 A3 A4 : Option Addr) (c1 c2 c3 c4 : Nat) (ds ss : List Int) (w : World) (h : ProfAt w A1 c1 A2 c2 ds ss) (h' : ProfAt w A3 c3 A4 c4 ds ss) :
    Calls Try.prog 18 #[profV A1 ds.length c1 A2 ss.length c2, profV A3 ds.length c3 A4 ss.length c4] w fun e w' => e = .returned (.bool true) ∧ Below w.heap.size w w' := by
  have H := Lib.hid h; have H' := Lib.hid h'; clear h h'
  go_enter Try.func18, Try.ntmps18
  go_wp2_with fail
  (refine (eqInt64S_same _ _ _ _ _ _ (H.out.1.below (B := w.heap.size) (by go_grown) (Nat.le_refl _)) (H'.out.1.below (B := w.heap.size) (by go_grown) (Nat.le_refl _))).mono ?_; rintro e w1 ⟨rfl, hb1⟩; obtain ⟨B1, hz1, q1, s1, t1, x1, y1, z1⟩ := bkeep (w := w) [w.heap.size, w.heap.size + 1] (by first | (simp; done) | (simp; omega)) (by first | (go_grown; done) | exact bdrewN (by go_grown) _) hb1; (try simp at hz1); clear hb1)
  go_wp2_with fail
  (refine (eqInt64S_same _ _ _ _ _ _ (H.out.2.below B1 (Nat.le_refl _)) (H'.out.2.below B1 (Nat.le_refl _))).mono ?_; rintro e w2 ⟨rfl, hb2⟩; obtain ⟨B2, hz2, q2, s2, t2, x2, y2, z2⟩ := bkeep (w := w) [w.heap.size, w.heap.size + 1] (by first | (simp; done) | (simp; omega)) (by first | (go_grown; done) | exact bdrewN (by go_grown) _) hb2; (try simp at hz2); clear hb2)
  go_wp2
  go_ret
  exact ⟨rfl, B2⟩

set_option maxHeartbeats 1000000 in
theorem szProfile_any (A1 A2 : Option Addr) (c1 c2 n1 n2 : Nat) (l : Int) (w : World) (h0 : 0 ≤ l) (h1 : l ≤ 1048576) (hn1 : n1 ≤ 9223372036854775807) (hn2 : n2 ≤ 9223372036854775807) :
    Calls Try.prog 12 #[profV A1 n1 c1 A2 n2 c2, .int .i64 l] w fun e w' => e = .returned (.int .i64 (if l - n1 < 0 then -1 else if l - n1 - n2 < 0 then -1 else l - n1 - n2)) ∧ Below w.heap.size w w' := by
  by_cases g1 : l - n1 < 0
  · go_enter Try.func12, Try.ntmps12
    go_wp2_with (go_at_call 44; refine (szInt64S_any _ _ _ _ _ (by omega) (by omega) (by omega)).mono ?_; rintro e w' ⟨rfl, rfl⟩)
    go_ret
    exact ⟨ret_int (by simp [g1]), by go_grown⟩
  · by_cases g2 : l - n1 - n2 < 0
    all_goals
      go_enter Try.func12, Try.ntmps12
      go_wp2_with (go_at_call 44; refine (szInt64S_any _ _ _ _ _ (by omega) (by omega) (by omega)).mono ?_; rintro e w' ⟨rfl, rfl⟩)
      go_ret
      exact ⟨ret_int (by simp [g1, g2]), by go_grown⟩
end Go.Proofs.Ytopggkomkfjbfaa
