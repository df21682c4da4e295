/- A gauge marked, from a larger number on. -/
import Derived.Test.YtjddnelnmmafdaaGau
namespace Go.Proofs.Ytjddnelnmmafdaa
set_option linter.unusedSimpArgs false
set_option linter.unusedVariables false
open Go.RowKit
set_option maxHeartbeats 1000000 in
theorem markGauge_big (A1 A2 : Option Addr) (c1 c2 : Nat) (ds ss : List Int) (k0 : Int) (lo hi : Nat) (w : World) (hx : ResP w lo hi A1 c1 A2 c2 ds ss) (hl : lo ≤ hi) (hh : hi ≤ w.heap.size) (hk : 0 ≤ k0) (hk2 : k0 ≤ 100000000) (hl1 : ds.length ≤ 1048576) (hl2 : ss.length ≤ 1048576) :
    Calls Try.prog 18 #[profV A1 ds.length c1 A2 ss.length c2, .int .i64 k0] w fun e w' => e = .returned (.int .i64 (k0 + ds.length + ss.length)) ∧ ResP w' lo hi A1 c1 A2 c2 (seqI ds.length k0) (seqI ss.length (k0 + ds.length)) ∧ ChgB lo hi w w' := by
  obtain ⟨l1, h1, l2, h2, a1, a2, a3, a4, a5, a6, a7, R1, R2⟩ := hx.pins hl
  have hap := hx.2.2
  have HA := Lib.hid hap; have HR1 := Lib.hid R1; have HR2 := Lib.hid R2; clear hx hap R1 R2
  go_enter Try.func18, Try.ntmps18
  go_wp2_with fail
  have B0 : Below w.heap.size w (w.alloc (.cells #[.slice A1 ds.length c1, .slice A2 ss.length c2] 26)) := by go_grown
  refine (markInt64S_any _ _ _ _ l1 h1 _ (HR1.out.below B0 (by omega)) hk (by omega) (by omega)).mono ?_
  rintro e w1 ⟨rfl, S1, C1⟩
  have e1 : w1.cell? ⟨w.heap.size, 0, none⟩ = some (.slice A1 ds.length c1) := by rw [C1.old (by omega)]; simp [go_sem]
  have e2 : w1.cell? ⟨w.heap.size, 1, none⟩ = some (.slice A2 ss.length c2) := by rw [C1.old (by omega)]; simp [go_sem]
  have HS1 := Lib.hid S1; have HC1 := Lib.hid C1; have HB0 := Lib.hid B0; clear S1 C1 B0
  go_wp2_with fail
  refine (markInt64S_any _ _ _ _ l2 h2 _ ((HR2.out.below HB0.out (by omega)).chg HC1.out (by omega)) (by omega) (by omega) (by omega)).mono ?_
  rintro e w2 ⟨rfl, S2, C2⟩
  have HS2 := Lib.hid S2; have HC2 := Lib.hid C2; clear S2 C2
  go_wp2
  go_ret
  refine ⟨rfl, ⟨(HS1.out.chg HC2.out (by omega)).mono a1 a3, HS2.out.mono a4 a6, fun n1 n2 => HA.out ?_ ?_⟩, ?_⟩
  · intro e; apply n1; rw [e]; rfl
  · intro e; apply n2; rw [e]; rfl
  · exact ((ChgB.of_below HB0.out).trans (HC1.out.toB.mono a1 a3)).trans (HC2.out.toB.mono a4 a6)
end Go.Proofs.Ytjddnelnmmafdaa
