/- Turns and the circle's diameter: plain. -/
import Derived.Test.YtmgmhaikehjddaaTn2
import Derived.Test.YtmgmhaikehjddaaPass
import Derived.Test.YtmgmhaikehjddaaRad2
import Derived.Test.YtmgmhaikehjddaaDivm
import Derived.Test.YtmgmhaikehjddaaCrOk
namespace Go.Proofs.Ytmgmhaikehjddaa
set_option linter.unusedSimpArgs false
set_option linter.unusedVariables false

theorem lim_bd2 (lo hi : Int) : -1000000000000 ≤ limLo lo hi ∧ limLo lo hi ≤ 1000000000000 ∧ -1000000000000 ≤ limHi lo hi ∧ limHi lo hi ≤ 1000000000000 := by
  rcases Bool.eq_false_or_eq_true (isB lo hi) with g | g
  · obtain ⟨a, b, -⟩ := lim_yes (c := 3) g
    rw [a, b]
    unfold isB at g
    rw [Bool.and_eq_true] at g
    have h1 := inB_bd g.1; have h2 := inB_bd g.2
    omega
  · obtain ⟨a, b, -⟩ := lim_no (c := 3) g
    rw [a, b]; omega
/-- the depth at which a ray turns lies in its layer -/
theorem turnDepth_in {ds ss : List Int} {src co si hy l : Int} {ab : Bool} (h : vaE 2 ds ss src co si hy l ab = 0) :
    RayOk ds ss src co si hy ∧ 0 ≤ l ∧ l + 1 < ss.length ∧ spd ds l ≤ tLo ds ss src co si hy l ab ∧ tHi ds ss src co si hy l ab ≤ spd ds (l + 1) ∧ tLo ds ss src co si hy l ab ≤ tHi ds ss src co si hy l ab := by
  obtain ⟨h0, hv⟩ := va_ok h
  obtain ⟨hn, hf⟩ := vd_two hv
  obtain ⟨r, l0, l1, -, -⟩ := arc_ok h0
  obtain ⟨n0, n1⟩ := near_bd ab l0 l1
  obtain ⟨f0, f1⟩ := far_bd ab l0 l1
  have tk := tdOk r n0 n1 f0 f1 hn hf
  have g2 : ¬ co * spd ss (farK l ab) < hy * spd ss src := of_decide_eq_false hf
  have u := r.up l l0 l1
  have e1 : tLo ds ss src co si hy l ab = tdLo ds ss src co hy (nearK l ab) (farK l ab) := by unfold tLo; rw [if_pos h]
  have e2 : tHi ds ss src co si hy l ab = tdHi ds ss src co hy (nearK l ab) (farK l ab) := by unfold tHi; rw [if_pos h]
  rw [e1, e2]
  have r0 := tk.r0; have t0 := tk.t0; have nn := tk.n0
  have q1 : 0 ≤ tdN ds ss src co hy (nearK l ab) (farK l ab) / tdR ss co (nearK l ab) (farK l ab) := Int.ediv_nonneg nn (by unfold tdR; omega)
  have q2 : -(-tdN ds ss src co hy (nearK l ab) (farK l ab) / tdR ss co (nearK l ab) (farK l ab)) ≤ ((spd ds (farK l ab) - spd ds (nearK l ab)).natAbs : Int) := by
    apply ceil_le_of (by unfold tdR; omega)
    unfold tdN tdR
    exact Int.mul_le_mul_of_nonneg_left (by omega) t0
  have q3 := (cg_gap (n := tdN ds ss src co hy (nearK l ab) (farK l ab)) (d := tdR ss co (nearK l ab) (farK l ab)) (by unfold tdR; omega)).1
  refine ⟨r, l0, l1, ?_⟩
  unfold tdLo tdHi
  generalize tdN ds ss src co hy (nearK l ab) (farK l ab) / tdR ss co (nearK l ab) (farK l ab) = F at *
  generalize -(-tdN ds ss src co hy (nearK l ab) (farK l ab) / tdR ss co (nearK l ab) (farK l ab)) = C at *
  cases ab
  · simp only [nearK, farK, Bool.false_eq_true, if_false] at *
    rw [if_neg (by omega), if_neg (by omega)]; omega
  · simp only [nearK, farK, if_true] at *
    rw [if_pos (by omega), if_pos (by omega)]; omega
theorem turnings_ok {ds ss : List Int} {src co si hy l : Int} {ab : Bool} (h : trC ds ss src co si hy l ab = 0) :
    plE ds ss src co si hy l ab = 0 ∧ plLo ds ss src co si hy l ab = trLo ds ss src co si hy l ab ∧ plHi ds ss src co si hy l ab = trHi ds ss src co si hy l ab ∧ plV ds ss src co si hy l ab = 2 ∧ -1000000000000 ≤ arHi ds ss src co si hy l ∧ arHi ds ss src co si hy l ≤ 1000000000000 ∧
    (arC ds ss src co si hy l = 3 ∨ (arC ds ss src co si hy l = 0 ∧ trLo ds ss src co si hy l ab ≤ 2 * arHi ds ss src co si hy l)) := by
  by_cases ho : vaE 2 ds ss src co si hy l ab = 0
  · obtain ⟨h0, hv⟩ := va_ok ho
    obtain ⟨hn, hf⟩ := vd_two hv
    obtain ⟨r, l0, l1, -, -⟩ := arc_ok h0
    obtain ⟨n0, n1⟩ := near_bd ab l0 l1
    obtain ⟨f0, f1⟩ := far_bd ab l0 l1
    obtain ⟨t1, t2, t3⟩ := tr_ok ho
    obtain ⟨p1, p2, p3⟩ := pas_turn (ds := ds) hf
    obtain ⟨a1, a2, a3, a4⟩ := pl_ok h0 hn
    rw [t3] at h
    rw [p3, h, if_pos rfl, hv] at a4
    rw [a1, a2, a3, a4, p1, p2, p3, t1, t2]
    refine ⟨h, rfl, rfl, rfl, ?_⟩
    obtain ⟨k1, k2, b1, b2, b3, b4⟩ := limz (by omega) h
    rw [k1]
    have tk := tdOk r n0 n1 f0 f1 hn hf
    have L := layOk r l0 l1
    have g1 : co * spd ss (nearK l ab) < hy * spd ss src := of_decide_eq_true hn
    have g2 : ¬ co * spd ss (farK l ab) < hy * spd ss src := of_decide_eq_false hf
    have hne : spd ss l ≠ spd ss (l + 1) := by
      intro e
      cases ab
      · simp only [nearK, farK, Bool.false_eq_true, if_false] at *; rw [e] at g2; omega
      · simp only [nearK, farK, if_true] at *; rw [e] at g1; omega
    have eR : co * spd ss (farK l ab) - co * spd ss (nearK l ab) = radW ss co l := by
      have aw := L.aW
      have r0 := tk.r0
      cases ab
      · simp only [nearK, farK, Bool.false_eq_true, if_false] at *; omega
      · simp only [nearK, farK, if_true] at *; omega
    have eT : ((spd ds (farK l ab) - spd ds (nearK l ab)).natAbs : Int) = spd ds (l + 1) - spd ds l := by
      have u := r.up l l0 l1
      cases ab
      · simp only [nearK, farK, Bool.false_eq_true, if_false] at *; omega
      · simp only [nearK, farK, if_true] at *; omega
    have e1 : arC ds ss src co si hy l = limC (radN ds ss src hy l / radW ss co l) (-(-radN ds ss src hy l / radW ss co l)) 3 := by unfold arC; rw [if_pos h0, if_neg hne]
    have e3 : arHi ds ss src co si hy l = limHi (radN ds ss src hy l / radW ss co l) (-(-radN ds ss src hy l / radW ss co l)) := by unfold arHi; rw [if_pos h0, if_neg hne]
    rw [e1, e3]
    have lb := lim_bd2 (radN ds ss src hy l / radW ss co l) (-(-radN ds ss src hy l / radW ss co l))
    refine ⟨lb.2.2.1, lb.2.2.2, ?_⟩
    cases hb : isB (radN ds ss src hy l / radW ss co l) (-(-radN ds ss src hy l / radW ss co l)) with
    | false => left; exact (lim_no hb).2.2
    | true =>
      obtain ⟨-, y2, y3⟩ := lim_yes (c := 3) hb
      refine .inr ⟨y3, ?_⟩
      rw [y2]
      have s := sin_sq r n0 n1 hn
      have hs : sinLo ss src co hy (nearK l ab) ≤ hy * spd ss src := by
        apply le_of_sq (by have := r.whole; omega)
        have := s.2.1
        unfold sqI at this
        have q := sq_nn (co * spd ss (nearK l ab))
        rw [sq_diff] at this
        omega
      unfold tnLo
      rw [eR, eT]
      have r0 := tk.r0
      rw [eR] at r0
      apply ediv_le_of r0
      have c := (ce_mul (n := radN ds ss src hy l) (d := radW ss co l) r0).1
      have u := r.up l l0 l1
      have m := Int.mul_le_mul_of_nonneg_left hs (show 0 ≤ 2 * (spd ds (l + 1) - spd ds l) by omega)
      generalize -(-radN ds ss src hy l / radW ss co l) = C at *
      unfold radN at c
      generalize radW ss co l = W at *
      have z : 2 * (spd ds (l + 1) - spd ds l) * (hy * spd ss src) = 2 * (hy * spd ss src * (spd ds (l + 1) - spd ds l)) := by grind
      have z2 : 2 * C * W = 2 * (C * W) := by grind
      rw [z2]
      omega
  · have := (tr_bad ho).2.2; omega
end Go.Proofs.Ytmgmhaikehjddaa
