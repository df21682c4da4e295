/- Texts in one: TopP, TopW, TopTop. -/
import Derived.Test.YtopggkomkfjbfaaGreatCellP
import Derived.Test.YtopggkomkfjbfaaGreatOcB
import Derived.Test.YtopggkomkfjbfaaGreatCellR
import Derived.Test.YtopggkomkfjbfaaGreatTraceRay
import Derived.Deep.RegionHeld3
import Derived.Test.YtopggkomkfjbfaaGreatDice
import Derived.Test.YtopggkomkfjbfaaGreatTrB
import Derived.Deep.QuietTactic
import Derived.BigQuiet
import Derived.IntWalk
namespace Go.Proofs.YtopggkomkfjbfaaGreat
section
set_option linter.unusedSimpArgs false
set_option linter.unusedVariables false

theorem can_mono {ss : List Int} {src co hy co' hy' k : Int} (h0 : 1 ≤ hy) (h1 : 1 ≤ hy') (hs : 0 ≤ spd ss k) (hle : co' * hy ≤ co * hy') (h : canB ss src co hy k = true) : canB ss src co' hy' k = true := by
  have h := of_decide_eq_true h
  apply decide_eq_true
  generalize spd ss k = c at *
  generalize spd ss src = S at *
  rcases Int.lt_or_le (co' * c) (hy' * S) with g | g
  · exact g
  · exfalso
    have a1 : hy * (hy' * S) ≤ hy * (co' * c) := Int.mul_le_mul_of_nonneg_left g (by omega)
    have a2 : (co' * hy) * c ≤ (co * hy') * c := Int.mul_le_mul_of_nonneg_right hle hs
    have a3 : hy' * (co * c) < hy' * (hy * S) := Int.mul_lt_mul_of_pos_left h (by omega)
    have e1 : hy * (hy' * S) = hy' * (hy * S) := by grind
    have e2 : hy * (co' * c) = (co' * hy) * c := by grind
    have e3 : (co * hy') * c = hy' * (co * c) := by grind
    omega
/-- a turn of two rays of one source: the flatter one does not go surely farther -/
theorem tn_two {ds ss : List Int} {src co si hy co' si' hy' n f : Int} (r : RayOk ds ss src co si hy) (r' : RayOk ds ss src co' si' hy') (n0 : 0 ≤ n) (n1 : n < ss.length) (f0 : 0 ≤ f) (f1 : f < ss.length) (hn : canB ss src co hy n = true) (hn' : canB ss src co' hy' n = true) (hf : canB ss src co hy f = false) (hf' : canB ss src co' hy' f = false)
    (hle : co' * hy ≤ co * hy') : tnLo ds ss src co hy n f ≤ tnHi ds ss src co' hy' n f := by
  have m := sin_two r r' n0 n1 hn hn' hle
  have g1 := (tnOk r n0 n1 f0 f1 hn hf).r0
  have g2 := (tnOk r' n0 n1 f0 f1 hn' hf').r0
  have c0 := r.c0; have c0' := r'.c0
  unfold tnLo tnHi
  have hT : 0 ≤ 2 * ((spd ds f - spd ds n).natAbs : Int) := by omega
  generalize 2 * ((spd ds f - spd ds n).natAbs : Int) = T at *
  generalize sinLo ss src co hy n = L at *
  generalize sinHi ss src co' hy' n = U at *
  rw [show co * spd ss f - co * spd ss n = co * (spd ss f - spd ss n) from (Int.mul_sub _ _ _).symm] at *
  rw [show co' * spd ss f - co' * spd ss n = co' * (spd ss f - spd ss n) from (Int.mul_sub _ _ _).symm] at *
  generalize spd ss f - spd ss n = D at *
  apply ediv_le_of g1
  have c := (ce_mul (n := T * U) (d := co' * D) g2).1
  generalize -(-(T * U) / (co' * D)) = q at *
  have m2 : T * (co' * L) ≤ T * (co * U) := Int.mul_le_mul_of_nonneg_left m hT
  have m3 : co * (T * U) ≤ co * (q * (co' * D)) := Int.mul_le_mul_of_nonneg_left c (by omega)
  rcases Int.lt_or_le (q * (co * D)) (T * L) with g | g
  · exfalso
    have m4 : co' * (q * (co * D)) < co' * (T * L) := Int.mul_lt_mul_of_pos_left g (by omega)
    have e1 : co' * (T * L) = T * (co' * L) := by grind
    have e2 : T * (co * U) = co * (T * U) := by grind
    have e3 : co * (q * (co' * D)) = co' * (q * (co * D)) := by grind
    omega
  · exact g
/-- three rays: the third lies between the others, the first is the flattest -/
structure Btw (ds ss : List Int) (src ca sa ha cb sb hb cx sx hx : Int) : Prop where
  ra : RayOk ds ss src ca sa ha
  rb : RayOk ds ss src cb sb hb
  rx : RayOk ds ss src cx sx hx
  h1 : cx * ha ≤ ca * hx
  h2 : cb * hx ≤ cx * hb
  s1 : decide (0 < sa) = decide (0 < sb)
  s2 : decide (0 < sa) = decide (0 < sx)
theorem btw_ev {ds ss : List Int} {src ca sa ha cb sb hb cx sx hx : Int} {s : Int × Bool} (B : Btw ds ss src ca sa ha cb sb hb cx sx hx) (oa : KdOk ss src ca ha s) (ob : KdOk ss src cb hb s) (ox : KdOk ss src cx hx s) (e : kdEv ds ss src ca ha s = kdEv ds ss src cb hb s) :
    kdEv ds ss src ca ha s = kdEv ds ss src cx hx s ∧ min (kdLo ds ss src ca ha s) (kdLo ds ss src cb hb s) ≤ kdHi ds ss src cx hx s ∧ kdLo ds ss src cx hx s ≤ max (kdHi ds ss src ca ha s) (kdHi ds ss src cb hb s) := by
  obtain ⟨k, d⟩ := s
  have ka := oa.k0; have kb := oa.k1
  have h10 := B.ra.h0; have h20 := B.rb.h0; have h30 := B.rx.h0
  unfold kdEv at *
  unfold kdLo kdHi
  dsimp only at *
  cases hi : inn ds k d
  · simp
  · simp only [hi, if_true] at e ⊢
    obtain ⟨l0, l1⟩ := lay_bd B.ra ka kb hi
    obtain ⟨n0, n1⟩ := near_bd d l0 l1
    obtain ⟨f0, f1⟩ := far_bd d l0 l1
    have enk : nearK (layK k d) d = k := by cases d <;> simp [nearK, layK]
    have hna : canB ss src ca ha (nearK (layK k d) d) = true := by rw [enk]; exact oa.hc
    have hnb : canB ss src cb hb (nearK (layK k d) d) = true := by rw [enk]; exact ob.hc
    have hnx : canB ss src cx hx (nearK (layK k d) d) = true := by rw [enk]; exact ox.hc
    have sf := B.ra.sp _ f0 f1
    have M1 : canB ss src ca ha (farK (layK k d) d) = true → canB ss src cx hx (farK (layK k d) d) = true := can_mono h10 h30 (by omega) B.h1
    have M2 : canB ss src cx hx (farK (layK k d) d) = true → canB ss src cb hb (farK (layK k d) d) = true := can_mono h30 h20 (by omega) B.h2
    cases ha_ : canB ss src ca ha (farK (layK k d) d)
    · have hb_ : canB ss src cb hb (farK (layK k d) d) = false := by
        cases hq : canB ss src cb hb (farK (layK k d) d)
        · rfl
        · rw [ha_, hq] at e; simp at e
      have hx_ : canB ss src cx hx (farK (layK k d) d) = false := by
        cases hq : canB ss src cx hx (farK (layK k d) d)
        · rfl
        · rw [M2 hq] at hb_; cases hb_
      rw [hb_, hx_]
      simp only [Bool.false_eq_true, if_false, true_and]
      have q1 := tn_two B.ra B.rx n0 n1 f0 f1 hna hnx ha_ hx_ B.h1
      have q2 := tn_two B.rx B.rb n0 n1 f0 f1 hnx hnb hx_ hb_ B.h2
      omega
    · have hx_ := M1 ha_
      have hb_ := M2 hx_
      rw [hb_, hx_]
      simp only [if_true, true_and]
      have c1 : canB ss src ca ha (layK k d) = true ∧ canB ss src ca ha (layK k d + 1) = true := by cases d <;> simp [nearK, farK] at hna ha_ <;> exact ⟨by assumption, by assumption⟩
      have c2 : canB ss src cb hb (layK k d) = true ∧ canB ss src cb hb (layK k d + 1) = true := by cases d <;> simp [nearK, farK] at hnb hb_ <;> exact ⟨by assumption, by assumption⟩
      have c3 : canB ss src cx hx (layK k d) = true ∧ canB ss src cx hx (layK k d + 1) = true := by cases d <;> simp [nearK, farK] at hnx hx_ <;> exact ⟨by assumption, by assumption⟩
      have q1 := cr_two B.ra B.rx l0 l1 c1.1 c1.2 c3.1 c3.2 B.h1
      have q2 := cr_two B.rx B.rb l0 l1 c3.1 c3.2 c2.1 c2.2 B.h2
      omega
theorem btw_at {ds ss : List Int} {src ca sa ha cb sb hb cx sx hx : Int} (B : Btw ds ss src ca sa ha cb sb hb cx sx hx) : ∀ n, sameN ds ss src ca sa ha cb sb hb n = true →
    sameN ds ss src ca sa ha cx sx hx n = true ∧ clLo ds ss src ca sa ha cb sb hb n ≤ (rwAt ds ss src cx sx hx n).hi ∧ (rwAt ds ss src cx sx hx n).lo ≤ clHi ds ss src ca sa ha cb sb hb n := by
  intro n
  induction n with
  | zero => intro _; exact ⟨rfl, by show (0 : Int) ≤ 0; omega, by show (0 : Int) ≤ 0; omega⟩
  | succ n ih =>
    intro h
    rw [sameN, Bool.and_eq_true] at h
    obtain ⟨i1, i2, i3⟩ := ih h.1
    have eb := same_kd B.s1 n h.1
    have ex := same_kd B.s2 n i1
    have g := of_decide_eq_true h.2
    have oa := kd_ok B.ra n
    have ob := kd_ok B.rb n
    have ox := kd_ok B.rx n
    rw [← eb] at g ob
    rw [← ex] at ox
    obtain ⟨q1, q2, q3⟩ := btw_ev B oa ob ox g
    refine ⟨?_, ?_, ?_⟩
    · rw [sameN, i1, ← ex, q1]; simp
    · have e1 : clLo ds ss src ca sa ha cb sb hb (n + 1) = clLo ds ss src ca sa ha cb sb hb n + min (kdLo ds ss src ca ha (kdAt ds ss src ca sa ha n)) (kdLo ds ss src cb hb (kdAt ds ss src cb sb hb n)) := rfl
      have e2 : (rwAt ds ss src cx sx hx (n + 1)).hi = (rwAt ds ss src cx sx hx n).hi + kdHi ds ss src cx hx (kdAt ds ss src cx sx hx n) := rfl
      rw [e1, e2, ← eb, ← ex]
      omega
    · have e1 : clHi ds ss src ca sa ha cb sb hb (n + 1) = clHi ds ss src ca sa ha cb sb hb n + max (kdHi ds ss src ca ha (kdAt ds ss src ca sa ha n)) (kdHi ds ss src cb hb (kdAt ds ss src cb sb hb n)) := rfl
      have e2 : (rwAt ds ss src cx sx hx (n + 1)).lo = (rwAt ds ss src cx sx hx n).lo + kdLo ds ss src cx hx (kdAt ds ss src cx sx hx n) := rfl
      rw [e1, e2, ← eb, ← ex]
      omega
/-- the directions of two numbers, the steeper and the flatter one -/
theorem md_lt {m n m' n' : Int} (h : mdB m n = true) (h' : mdB m' n' = true) (hlt : m * n' < m' * n) : mdC m' n' * mdH m n < mdC m n * mdH m' n' := by
  obtain ⟨g1, -, -, g4, -⟩ := md_good h
  obtain ⟨g1', -, -, g4', -⟩ := md_good h'
  have k := mdOk_of h; have k' := mdOk_of h'
  have d1 : mdG m n ∣ n * n - m * m := by unfold mdG; exact Int.dvd_trans (Int.gcd_dvd_left _ _) (Int.gcd_dvd_left _ _)
  have d2 : mdG m n ∣ n * n + m * m := by unfold mdG; exact Int.gcd_dvd_right _ _
  have d1' : mdG m' n' ∣ n' * n' - m' * m' := by unfold mdG; exact Int.dvd_trans (Int.gcd_dvd_left _ _) (Int.gcd_dvd_left _ _)
  have d2' : mdG m' n' ∣ n' * n' + m' * m' := by unfold mdG; exact Int.gcd_dvd_right _ _
  have p := k.g0; have p' := k'.g0
  rw [g1, g4, g1', g4']
  obtain ⟨C, e1⟩ := d1
  obtain ⟨H, e2⟩ := d2
  obtain ⟨C', e1'⟩ := d1'
  obtain ⟨H', e2'⟩ := d2'
  have z1 : (n * n - m * m) / mdG m n = C := by rw [e1]; exact Int.mul_ediv_cancel_left _ (by omega)
  have z2 : (n * n + m * m) / mdG m n = H := by rw [e2]; exact Int.mul_ediv_cancel_left _ (by omega)
  have z3 : (n' * n' - m' * m') / mdG m' n' = C' := by rw [e1']; exact Int.mul_ediv_cancel_left _ (by omega)
  have z4 : (n' * n' + m' * m') / mdG m' n' = H' := by rw [e2']; exact Int.mul_ediv_cancel_left _ (by omega)
  rw [z1, z2, z3, z4]
  have q0 := k.m0; have q1 := k.n0; have q2 := k'.m0; have q3 := k'.n0
  clear z1 z2 z3 z4 g1 g4 g1' g4' k k' h h'
  generalize mdG m n = g at *
  generalize mdG m' n' = g' at *
  have big : (m * n') * (m * n') < (m' * n) * (m' * n) := Int.mul_lt_mul hlt (Int.le_of_lt hlt) (Int.mul_pos (by omega) (by omega)) (Int.mul_nonneg (by omega) (by omega))
  have key : (n' * n' - m' * m') * (n * n + m * m) < (n * n - m * m) * (n' * n' + m' * m') := by
    have e5 : (n' * n' - m' * m') * (n * n + m * m) = n' * n' * (n * n) + (m * n') * (m * n') - (m' * n) * (m' * n) - (m' * m') * (m * m) := by grind
    have e6 : (n * n - m * m) * (n' * n' + m' * m') = n' * n' * (n * n) + (m' * n) * (m' * n) - (m * n') * (m * n') - (m' * m') * (m * m) := by grind
    omega
  rw [e1, e2, e1', e2'] at key
  rcases Int.lt_or_le (C' * H) (C * H') with q | q
  · exact q
  · exfalso
    have a := Int.mul_le_mul_of_nonneg_left q (show 0 ≤ g * g' from Int.mul_nonneg (by omega) (by omega))
    have e7 : (g' * C') * (g * H) = (g * g') * (C' * H) := by grind
    have e8 : (g * C) * (g' * H') = (g * g') * (C * H') := by grind
    omega
/-- what is told of a direction between the ends of a cell of a fan -/
structure TopIs (ds ss : List Int) (src n m : Int) (dn : Bool) (st : Int) (xc xs xh : Int) (v kn di : Int) : Prop where
  l1 : 0 < mdC m n * mdH (m + 1) n - mdC (m + 1) n * mdH m n
  l2 : 0 < mdC m n * xh - xc * mdH m n
  l3 : 0 < xc * mdH (m + 1) n - mdC (m + 1) n * xh
  dx : dirB xc xs xh = true
  sx : decide (0 < xs) = dn
  tx : trCo ds ss src xc xs xh st = 0
  ta : trCo ds ss src (mdC m n) (mdS m n dn) (mdH m n) st = 0
  tl : trL ds ss src xc xs xh st = trL ds ss src (mdC m n) (mdS m n dn) (mdH m n) st
  b1 : crL ds ss src (mdC m n) (mdS m n dn) (mdH m n) (mdC (m + 1) n) (mdS (m + 1) n dn) (mdH (m + 1) n) st ≤ (trX ds ss src xc xs xh st).hi
  b2 : (trX ds ss src xc xs xh st).lo ≤ crH ds ss src (mdC m n) (mdS m n dn) (mdH m n) (mdC (m + 1) n) (mdS (m + 1) n dn) (mdH (m + 1) n) st
  me : (trX ds ss src xc xs xh st).k = kn → (trX ds ss src xc xs xh st).lo = di → (trX ds ss src xc xs xh st).hi = di → v ≠ 0
/-- what is told of a cell of a fan -/
structure TopC (ds ss : List Int) (src n m : Int) (dn : Bool) (st : Int) (v kn di : Int) : Prop where
  d1 : mdB m n = true
  d2 : mdB (m + 1) n = true
  e1 : mdE m n = 0
  e2 : mdE (m + 1) n = 0
  ne : crE ds ss src (mdC m n) (mdS m n dn) (mdH m n) (mdC (m + 1) n) (mdS (m + 1) n dn) (mdH (m + 1) n) st ≠ 0 → v ≠ 0
  bt : ∀ m' n', mdE m' n' = 0 → m * n' < m' * n → m' * n < (m + 1) * n' → crE ds ss src (mdC m n) (mdS m n dn) (mdH m n) (mdC (m + 1) n) (mdS (m + 1) n dn) (mdH (m + 1) n) st = 0 → TopIs ds ss src n m dn st (mdC m' n') (mdS m' n' dn) (mdH m' n') v kn di
theorem tr_zero' {ds ss : List Int} {src co si hy : Int} (r : RayOk ds ss src co si hy) {m : Nat} (hm : m ≤ 100) : trCo ds ss src co si hy m = 0 ∧ trX ds ss src co si hy m = rwAt ds ss src co si hy m ∧ trL ds ss src co si hy m = trE ds ss src co hy (rs0 src si) m := by
  have e : trCo ds ss src co si hy m = 0 := (trCo_in (rayE_zero (k := 0) r) hm).trans (no_limit r m hm).1
  exact ⟨e, (trX_ok e).trans (no_limit r m hm).2, trL_ok e⟩
theorem top_is {ds ss : List Int} {src n lo hi st kn di : Int} (dn : Bool) (h : fvE ds ss src n lo hi st kn di = 0) {i : Nat} (hi_ : (lo + (i : Int)) < hi) :
    1 ≤ lo ∧ hi ≤ 31 ∧ 2 ≤ n ∧ n ≤ 31 ∧ ∃ v, (fvL ds ss src n lo hi dn st kn di)[i]? = some v ∧ TopC ds ss src n (lo + i) dn st v kn di := by
  have hr : rcB ds.length kn di = true := by
    cases q : rcB ds.length kn di
    · exfalso
      by_cases g : faE ds ss src n lo hi st = 0
      · have := (fv_far dn g q).1; omega
      · have := (fv_bad dn kn di g).1; omega
    · rfl
  have hf : faE ds ss src n lo hi st = 0 := by
    by_cases g : faE ds ss src n lo hi st = 0
    · exact g
    · have := (fv_bad dn kn di g).1; omega
  obtain ⟨hp, hb, s0, s1, k, rfl, hk⟩ := fa_zero hf
  have f := fan_ok hb
  have fa := f.l0; have fb := f.l1; have fc := f.h1; have fd := f.n1
  have g1 := fan_md (m := lo + i) hb (by omega) (by omega)
  have g2 := fan_md (m := lo + i + 1) hb (by omega) (by omega)
  have k1 := mdOk_of g1
  refine ⟨by omega, by omega, k1.n0, k1.n1, fvI ds ss src n lo dn k kn di i, ?_, g1, g2, (md_good g1).2.2.2.2, (md_good g2).2.2.2.2, ?_, ?_⟩
  · rw [(fv_ok dn hf hr).2, fvTo, List.getElem?_map, List.getElem?_range (by omega)]; rfl
  all_goals
    have ra := fan_ray dn hp hb s0 s1 (m := lo + i) (by omega) (by omega)
    have rb := fan_ray dn hp hb s0 s1 (m := lo + i + 1) (by omega) (by omega)
    have hs : decide (0 < mdS (lo + i) n dn) = decide (0 < mdS (lo + i + 1) n dn) := fan_sign dn hb (by omega) (by omega) (by omega) (by omega)
    have ce : ceE ds ss src (mdC (lo + i) n) (mdS (lo + i) n dn) (mdH (lo + i) n) (mdC (lo + i + 1) n) (mdS (lo + i + 1) n dn) (mdH (lo + i + 1) n) k = 0 := by
      unfold ceE
      have b0 : inB src 0 ((ds.length : Int) - 1) = true := by unfold inB; simp; omega
      have b1 : inB (k : Int) 0 100 = true := by unfold inB; simp; omega
      rw [hp, md_dir dn g1, md_dir dn g2, b0, b1]; rfl
    have al : alB (mdS (lo + i) n dn) (mdS (lo + i + 1) n dn) = true := by unfold alB; rw [hs]; simp
    have ev : fvI ds ss src n lo dn k kn di i = cvI ds ss src (mdC (lo + i) n) (mdS (lo + i) n dn) (mdH (lo + i) n) (mdC (lo + i + 1) n) (mdS (lo + i + 1) n dn) (mdH (lo + i + 1) n) k kn di := by unfold fvI; rw [← Int.add_assoc]
    rw [ev]
    clear ev
  · intro hc
    cases hq : sameN ds ss src (mdC (lo + i) n) (mdS (lo + i) n dn) (mdH (lo + i) n) (mdC (lo + i + 1) n) (mdS (lo + i + 1) n dn) (mdH (lo + i + 1) n) k
    · unfold cvI cvB; rw [hq, if_neg (by decide)]; decide
    · exact absurd (cr_ok ce al hq).1 hc
  · intro m' n' hx l1 l2 hc
    have gx : mdB m' n' = true := by
      cases q : mdB m' n'
      · have := (md_bad (dn := dn) q).2.2.2; omega
      · rfl
    have rx := rayOk_of hp (md_dir dn gx) s0 s1
    have hq : sameN ds ss src (mdC (lo + i) n) (mdS (lo + i) n dn) (mdH (lo + i) n) (mdC (lo + i + 1) n) (mdS (lo + i + 1) n dn) (mdH (lo + i + 1) n) k = true := by
      cases hq : sameN ds ss src (mdC (lo + i) n) (mdS (lo + i) n dn) (mdH (lo + i) n) (mdC (lo + i + 1) n) (mdS (lo + i + 1) n dn) (mdH (lo + i + 1) n) k
      · exact absurd ((cr_part ce al hq).1) (by omega)
      · rfl
    obtain ⟨-, c1, c2⟩ := cr_ok ce al hq
    have o1 := md_lt g1 g2 (by have e := Int.add_mul (lo + (i : Int)) 1 n; have := k1.n0; omega)
    have o2 := md_lt g1 gx l1
    have o3 := md_lt gx g2 l2
    have B : Btw ds ss src (mdC (lo + i) n) (mdS (lo + i) n dn) (mdH (lo + i) n) (mdC (lo + i + 1) n) (mdS (lo + i + 1) n dn) (mdH (lo + i + 1) n) (mdC m' n') (mdS m' n' dn) (mdH m' n') := ⟨ra, rb, rx, by omega, by omega, hs, by rw [md_sign dn g1, md_sign dn gx]⟩
    obtain ⟨q1, q2, q3⟩ := btw_at B k hq
    obtain ⟨x1, x2, x3⟩ := tr_zero' rx hk
    obtain ⟨y1, y2, y3⟩ := tr_zero' ra hk
    have tl := same_eq ra rx k hk
    rw [q1] at tl
    have tl := of_decide_eq_true tl
    refine ⟨by omega, by omega, by omega, md_dir dn gx, md_sign dn gx, x1, y1, by rw [x3, y3, tl], by rw [c1, x2]; exact q2, by rw [c2, x2]; exact q3, ?_⟩
    rw [x2]
    intro e1 e2 e3
    rw [e3] at q2; rw [e2] at q3
    have ek := same_k B.s2 q1
    rw [e1] at ek
    unfold cvI cvB
    rw [hq, if_pos rfl, if_pos ⟨ek, q2, q3⟩]
    split <;> decide
end

section
set_option linter.unusedSimpArgs false
set_option linter.unusedVariables false
open Go.RowKit

theorem bcell1 {W w1 : World} (hb : Below W.heap.size W w1) : (∀ b o, b < W.heap.size → w1.cell? ⟨b, o, none⟩ = W.cell? ⟨b, o, none⟩) ∧ (∀ b o, b < W.heap.size → w1.frozen? ⟨b, o, none⟩ = W.frozen? ⟨b, o, none⟩) :=
  ⟨fun b o h => hb.cell (p := ⟨b, o, none⟩) h, fun b o h => hb.frozen (p := ⟨b, o, none⟩) h⟩

set_option maxHeartbeats 2000000 in
theorem implMakeDir_any (m n : Int) (dn : Bool) (w : World) :
    Calls Tryz.prog 11 #[.int .i64 m, .int .i64 n, .bool dn] w fun e w' => e = .returned (.tuple #[dirV (mdC m n) (mdS m n dn) (mdH m n), .int .i64 (mdE m n)]) ∧ Below w.heap.size w w' := by
  by_cases h1 : inB n 2 1000 = true
  · have a := inB_bd h1
    by_cases h2 : inB m 1 (n - 1) = true
    · have b := inB_bd h2
      have e1 := Int.mul_le_mul a.2 a.2 (show 0 ≤ n by omega) (by omega)
      have e2 := Int.mul_nonneg (show 0 ≤ n by omega) (show 0 ≤ n by omega)
      have e3 := Int.mul_le_mul (show m ≤ 1000 by omega) (show m ≤ 1000 by omega) (show 0 ≤ m by omega) (by omega)
      have e4 := Int.mul_nonneg (show 0 ≤ m by omega) (show 0 ≤ m by omega)
      by_cases h3 : n * n + m * m ≤ 1000
      · have hb : mdB m n = true := by simp [mdB, h1, h2, h3]
        have g5 := (md_good hb).2.2.2.2
        have HB := Lib.hid hb; have G5 := Lib.hid g5; clear hb g5
        have MD := Lib.hid (show ∀ w, Calls Tryz.prog 26 #[.int .i64 m, .int .i64 n, .bool dn] w fun e w' => e = .returned (dirV (mdC m n) (mdS m n dn) (mdH m n)) ∧ Below w.heap.size w w' from fun w => makeDir_any m n dn w HB.out)
        generalize mdC m n = C_ at *
        generalize mdS m n dn = S_ at *
        generalize mdH m n = H_ at *
        go_enter Tryz.func11, Tryz.ntmps11
        go_wp2_with (first | (go_at_call 25; refine (within_any _ _ _ _).mono ?_; rintro e w' ⟨rfl, rfl⟩) | (go_at_call 26; refine (MD.out _).mono ?_; rintro e w1 ⟨rfl, hb1⟩; obtain ⟨B1, hz1, q1, s1, t1, x1, y1, z1⟩ := bkeep (w := w) [w.heap.size] (by first | (simp; done) | (simp; omega)) (by first | (go_grown; done) | exact bdrewN (by go_grown) _) hb1; (try simp at hz1); clear hb1))
        all_goals refine bodyPost_ret (by simp [results, Tryz.results11, go_sem, *] <;> rfl) rfl ?_
        all_goals exact ⟨by rw [G5.out], (by first | with_reducible exact B1 | (go_grown; done) | with_reducible exact bdrewN B1 _ | (go_grown <;> first | with_reducible exact bdrewN B1 _ | with_reducible exact B1))⟩
      · have hb : mdB m n = false := by simp [mdB, h3]
        obtain ⟨g1, g2, g3, g4⟩ := md_bad (dn := dn) hb
        go_enter Tryz.func11, Tryz.ntmps11
        go_wp2_with (go_at_call 25; refine (within_any _ _ _ _).mono ?_; rintro e w' ⟨rfl, rfl⟩)
        all_goals refine bodyPost_ret (by simp [results, Tryz.results11, go_sem, *] <;> rfl) rfl ?_
        all_goals exact ⟨by rw [g1, g2, g3, g4], by go_grown⟩
    · have hb : mdB m n = false := by simp [mdB, h2]
      obtain ⟨g1, g2, g3, g4⟩ := md_bad (dn := dn) hb
      go_enter Tryz.func11, Tryz.ntmps11
      go_wp2_with (go_at_call 25; refine (within_any _ _ _ _).mono ?_; rintro e w' ⟨rfl, rfl⟩)
      all_goals refine bodyPost_ret (by simp [results, Tryz.results11, go_sem, *] <;> rfl) rfl ?_
      all_goals exact ⟨by rw [g1, g2, g3, g4], by go_grown⟩
  · have hb : mdB m n = false := by simp [mdB, h1]
    obtain ⟨g1, g2, g3, g4⟩ := md_bad (dn := dn) hb
    go_enter Tryz.func11, Tryz.ntmps11
    go_wp2_with (go_at_call 25; refine (within_any _ _ _ _).mono ?_; rintro e w' ⟨rfl, rfl⟩)
    all_goals refine bodyPost_ret (by simp [results, Tryz.results11, go_sem, *] <;> rfl) rfl ?_
    all_goals exact ⟨by rw [g1, g2, g3, g4], by go_grown⟩
set_option maxRecDepth 100000 in
set_option maxHeartbeats 8000000 in
theorem liesBetween_yes (a1 a2 a3 b1 b2 b3 c1 c2 c3 : Int) (w : World) (d1 : dirB a1 a2 a3 = true) (d2 : dirB b1 b2 b3 = true) (d3 : dirB c1 c2 c3 = true) (s1 : alB a2 b2 = true) (s2 : alB a2 c2 = true)
    (l1 : 0 < a1 * b3 - b1 * a3) (l2 : 0 < a1 * c3 - c1 * a3) (l3 : 0 < c1 * b3 - b1 * c3) :
    Calls Tryz.prog 13 #[dirV a1 a2 a3, dirV b1 b2 b3, dirV c1 c2 c3] w fun e w' => e = .returned (.bool true) ∧ Below w.heap.size w w' := by
  have I1 := Lib.hid (show ∀ w, Calls Tryz.prog 29 #[dirV a1 a2 a3] w fun e w' => e = .returned (.bool true) ∧ Below w.heap.size w w' from fun w => by have q := implIsDirection_any a1 a2 a3 w; rw [d1] at q; exact q)
  have I2 := Lib.hid (show ∀ w, Calls Tryz.prog 29 #[dirV b1 b2 b3] w fun e w' => e = .returned (.bool true) ∧ Below w.heap.size w w' from fun w => by have q := implIsDirection_any b1 b2 b3 w; rw [d2] at q; exact q)
  have I3 := Lib.hid (show ∀ w, Calls Tryz.prog 29 #[dirV c1 c2 c3] w fun e w' => e = .returned (.bool true) ∧ Below w.heap.size w w' from fun w => by have q := implIsDirection_any c1 c2 c3 w; rw [d3] at q; exact q)
  have A1 := Lib.hid (show ∀ w, Calls Tryz.prog 28 #[dirV a1 a2 a3, dirV b1 b2 b3] w fun e w' => e = .returned (.bool true) ∧ Below w.heap.size w w' from fun w => by have q := areAlike_any a1 a2 a3 b1 b2 b3 w; rw [s1] at q; exact q)
  have A2 := Lib.hid (show ∀ w, Calls Tryz.prog 28 #[dirV a1 a2 a3, dirV c1 c2 c3] w fun e w' => e = .returned (.bool true) ∧ Below w.heap.size w w' from fun w => by have q := areAlike_any a1 a2 a3 c1 c2 c3 w; rw [s2] at q; exact q)
  have D1 := Lib.hid d1; have D2 := Lib.hid d2; have D3 := Lib.hid d3
  have g1 := sgn_pos l1; have g2 := sgn_pos l2; have g3 := sgn_pos l3
  have G1 := Lib.hid g1; have G2 := Lib.hid g2; have G3 := Lib.hid g3; clear g1 g2 g3
  clear d1 d2 d3 s1 s2 l1 l2 l3
  go_enter Tryz.func13, Tryz.ntmps13
  go_wp2_with fail
  (refine (I1.out _).mono ?_; rintro e w1 ⟨rfl, hb1⟩; obtain ⟨B1, hz1, q1, s1, t1, x1, y1, z1⟩ := bkeep (w := w) [w.heap.size, w.heap.size + 1, w.heap.size + 1 + 1] (by first | (simp; done) | (simp; omega)) (by first | (go_grown; done) | exact bdrewN (by go_grown) _) hb1; (try simp at hz1); clear hb1)
  go_wp2_with fail
  (refine (I2.out _).mono ?_; rintro e w2 ⟨rfl, hb2⟩; obtain ⟨B2, hz2, q2, s2, t2, x2, y2, z2⟩ := bkeep (w := w) [w.heap.size, w.heap.size + 1, w.heap.size + 1 + 1] (by first | (simp; done) | (simp; omega)) (by first | (go_grown; done) | exact bdrewN (by go_grown) _) hb2; (try simp at hz2); clear hb2)
  go_wp2_with fail
  (refine (I3.out _).mono ?_; rintro e w3 ⟨rfl, hb3⟩; obtain ⟨B3, hz3, q3, s3, t3, x3, y3, z3⟩ := bkeep (w := w) [w.heap.size, w.heap.size + 1, w.heap.size + 1 + 1] (by first | (simp; done) | (simp; omega)) (by first | (go_grown; done) | exact bdrewN (by go_grown) _) hb3; (try simp at hz3); clear hb3)
  go_wp2_with fail
  (refine (A1.out _).mono ?_; rintro e w4 ⟨rfl, hb4⟩; obtain ⟨B4, hz4, q4, s4, t4, x4, y4, z4⟩ := bkeep (w := w) [w.heap.size, w.heap.size + 1, w.heap.size + 1 + 1] (by first | (simp; done) | (simp; omega)) (by first | (go_grown; done) | exact bdrewN (by go_grown) _) hb4; (try simp at hz4); clear hb4)
  go_wp2_with fail
  (refine (A2.out _).mono ?_; rintro e w5 ⟨rfl, hb5⟩; obtain ⟨B5, hz5, q5, s5, t5, x5, y5, z5⟩ := bkeep (w := w) [w.heap.size, w.heap.size + 1, w.heap.size + 1 + 1] (by first | (simp; done) | (simp; omega)) (by first | (go_grown; done) | exact bdrewN (by go_grown) _) hb5; (try simp at hz5); clear hb5)
  go_wp2_with fail
  refine genS (S := fun w' => Below w.heap.size w w' ∧ w.heap.size < w'.heap.size ∧ w.heap.size + 1 < w'.heap.size ∧ w.heap.size + 1 + 1 < w'.heap.size ∧ w'.cell? ⟨w.heap.size, 0, none⟩ = some (.int .i64 a1) ∧ w'.cell? ⟨w.heap.size, 1, none⟩ = some (.int .i64 a2) ∧ w'.cell? ⟨w.heap.size, 2, none⟩ = some (.int .i64 a3) ∧ w'.cell? ⟨w.heap.size + 1, 0, none⟩ = some (.int .i64 b1) ∧ w'.cell? ⟨w.heap.size + 1, 1, none⟩ = some (.int .i64 b2) ∧ w'.cell? ⟨w.heap.size + 1, 2, none⟩ = some (.int .i64 b3) ∧ w'.cell? ⟨w.heap.size + 1 + 1, 0, none⟩ = some (.int .i64 c1) ∧ w'.cell? ⟨w.heap.size + 1 + 1, 1, none⟩ = some (.int .i64 c2) ∧ w'.cell? ⟨w.heap.size + 1 + 1, 2, none⟩ = some (.int .i64 c3)) ⟨(by first | exact B5 | exact bdrewN B5 _ | (go_grown; done)), by first | omega | (simp; done) | (simp; omega), by first | omega | (simp; done) | (simp; omega), by first | omega | (simp; done) | (simp; omega), by simp [*, go_sem], by simp [*, go_sem], by simp [*, go_sem], by simp [*, go_sem], by simp [*, go_sem], by simp [*, go_sem], by simp [*, go_sem], by simp [*, go_sem], by simp [*, go_sem]⟩ ?_
  clear B1 q1 s1 t1 x1 y1 z1 hz1 B2 q2 s2 t2 x2 y2 z2 hz2 B3 q3 s3 t3 x3 y3 z3 hz3 B4 q4 s4 t4 x4 y4 z4 hz4 B5 q5 s5 t5 x5 y5 z5 hz5
  rintro w10 ⟨B10, lt10_0, lt10_1, lt10_2, c10_0, c10_1, c10_2, c10_3, c10_4, c10_5, c10_6, c10_7, c10_8⟩
  have B10_ := Lib.hid B10; clear B10
  have M1 := Lib.hid True.intro; have M2 := Lib.hid True.intro; have M3 := Lib.hid True.intro
  have g1 := G1.out; have g2 := G2.out; have g3 := G3.out
  go_region_held3 (fun w' => w'.cell? ⟨w.heap.size, 0, none⟩ = some (.int .i64 a1) ∧ w'.cell? ⟨w.heap.size, 1, none⟩ = some (.int .i64 a2) ∧ w'.cell? ⟨w.heap.size, 2, none⟩ = some (.int .i64 a3) ∧ w'.cell? ⟨w.heap.size + 1, 0, none⟩ = some (.int .i64 b1) ∧ w'.cell? ⟨w.heap.size + 1, 1, none⟩ = some (.int .i64 b2) ∧ w'.cell? ⟨w.heap.size + 1, 2, none⟩ = some (.int .i64 b3) ∧ w'.cell? ⟨w.heap.size + 1 + 1, 0, none⟩ = some (.int .i64 c1) ∧ w'.cell? ⟨w.heap.size + 1 + 1, 1, none⟩ = some (.int .i64 c2) ∧ w'.cell? ⟨w.heap.size + 1 + 1, 2, none⟩ = some (.int .i64 c3)) (first | (go_keep; done) | (simp [*, go_sem]; done))
    (first
      | (go_at_call 30; have m_ := M1; clear m_ M1; refine (cmpDirs_any _ _ _ _ _ _ _ (by first | with_reducible exact D1.out | with_reducible exact D2.out | with_reducible exact D3.out) (by first | with_reducible exact D1.out | with_reducible exact D2.out | with_reducible exact D3.out)).mono ?_; rintro e w11 ⟨rfl, hb11⟩; obtain ⟨hc11, hf11⟩ := bcell1 hb11; have hz11 := hb11.size; (try simp only [World.size_alloc, World.size_drew, size_set] at hz11); (try simp only [World.size_alloc, World.size_drew, size_set] at hc11); (try simp only [World.size_alloc, World.size_drew, size_set] at hf11); have ly11_0 : w.heap.size < w11.heap.size := (by omega); have ly11_1 : w.heap.size + 1 < w11.heap.size := (by omega); have ly11_2 : w.heap.size + 1 + 1 < w11.heap.size := (by omega); have BB := Lib.hid ((show Below w10.heap.size w10 _ from (by first | exact Below.refl _ _ | (go_grown; done))).trans (hb11.mono (by first | omega | (simp; done) | (simp; omega)))); clear hb11)
      | (go_at_call 30; have m_ := M2; clear m_ M2; refine (cmpDirs_any _ _ _ _ _ _ _ (by first | with_reducible exact D1.out | with_reducible exact D2.out | with_reducible exact D3.out) (by first | with_reducible exact D1.out | with_reducible exact D2.out | with_reducible exact D3.out)).mono ?_; rintro e w12 ⟨rfl, hb12⟩; obtain ⟨hc12, hf12⟩ := bcell1 hb12; have hz12 := hb12.size; (try simp only [World.size_alloc, World.size_drew, size_set] at hz12); (try simp only [World.size_alloc, World.size_drew, size_set] at hc12); (try simp only [World.size_alloc, World.size_drew, size_set] at hf12); have ly12_0 : w.heap.size < w12.heap.size := (by omega); have ly12_1 : w.heap.size + 1 < w12.heap.size := (by omega); have ly12_2 : w.heap.size + 1 + 1 < w12.heap.size := (by omega); have BB := Lib.hid ((BB.out.trans (show Below w10.heap.size w11 _ from Below.mono (B := w11.heap.size) (by first | exact Below.refl _ _ | (go_grown; done)) (by omega))).trans (hb12.mono (by first | omega | (simp; done) | (simp; omega)))); clear hb12)
      | (go_at_call 30; have m_ := M3; clear m_ M3; refine (cmpDirs_any _ _ _ _ _ _ _ (by first | with_reducible exact D1.out | with_reducible exact D2.out | with_reducible exact D3.out) (by first | with_reducible exact D1.out | with_reducible exact D2.out | with_reducible exact D3.out)).mono ?_; rintro e w13 ⟨rfl, hb13⟩; obtain ⟨hc13, hf13⟩ := bcell1 hb13; have hz13 := hb13.size; (try simp only [World.size_alloc, World.size_drew, size_set] at hz13); (try simp only [World.size_alloc, World.size_drew, size_set] at hc13); (try simp only [World.size_alloc, World.size_drew, size_set] at hf13); have ly13_0 : w.heap.size < w13.heap.size := (by omega); have ly13_1 : w.heap.size + 1 < w13.heap.size := (by omega); have ly13_2 : w.heap.size + 1 + 1 < w13.heap.size := (by omega); have BB := Lib.hid ((BB.out.trans (show Below w10.heap.size w12 _ from Below.mono (B := w12.heap.size) (by first | exact Below.refl _ _ | (go_grown; done)) (by omega))).trans (hb13.mono (by first | omega | (simp; done) | (simp; omega)))); clear hb13))
  all_goals go_wp2
  all_goals (first | go_ret2 | go_ret)
  all_goals exact ⟨rfl, B10_.out.trans (Below.mono (show Below w10.heap.size w10 _ by have hb_ := BB.out; first | exact hb_ | exact bdrewN hb_ _ | (go_grown; done)) B10_.out.size)⟩
/-- a ray in a cell: what the program says of it -/
structure TopX (A1 A2 : Option Addr) (c1 c2 : Nat) (ds ss : List Int) (src st ac ai ah bc bi bh xc xi xh zl zh v kn di : Int) (EL : List Int) (xk : Int) (xd : Bool) (xl xu ak : Int) (ad : Bool) (al au : Int) : Prop where
  lies : ∀ w, Calls Tryz.prog 13 #[dirV ac ai ah, dirV bc bi bh, dirV xc xi xh] w fun e w' => e = .returned (.bool true) ∧ Below w.heap.size w w'
  tx : ∀ w, ProfAt w A1 c1 A2 c2 ds ss → Calls Tryz.prog 14 #[profV A1 ds.length c1 A2 ss.length c2, .int .i64 src, dirV xc xi xh, .int .i64 st] w fun e w' => (∃ A' c', e = .returned (.tuple #[.slice A' EL.length c', rsV xk xd xl xu, .int .i64 0]) ∧ ResI w' w.heap.size w'.heap.size A' c' EL) ∧ Below w.heap.size w w'
  ta : ∀ w, ProfAt w A1 c1 A2 c2 ds ss → Calls Tryz.prog 14 #[profV A1 ds.length c1 A2 ss.length c2, .int .i64 src, dirV ac ai ah, .int .i64 st] w fun e w' => (∃ A' c', e = .returned (.tuple #[.slice A' EL.length c', rsV ak ad al au, .int .i64 0]) ∧ ResI w' w.heap.size w'.heap.size A' c' EL) ∧ Below w.heap.size w w'
  b1 : zl ≤ xu
  b2 : xl ≤ zh
  me : xk = kn → xl = di → xu = di → v ≠ 0
/-- a cell of a fan: what the program says of it -/
structure TopA (A1 A2 : Option Addr) (c1 c2 : Nat) (ds ss : List Int) (src n m : Int) (dn : Bool) (st kn di v ac ai ah bc bi bh rr zl zh : Int) : Prop where
  ne : rr ≠ 0 → v ≠ 0
  m1 : ∀ w, Calls Tryz.prog 11 #[.int .i64 m, .int .i64 n, .bool dn] w fun e w' => e = .returned (.tuple #[dirV ac ai ah, .int .i64 0]) ∧ Below w.heap.size w w'
  m2 : ∀ w, Calls Tryz.prog 11 #[.int .i64 (m + 1), .int .i64 n, .bool dn] w fun e w' => e = .returned (.tuple #[dirV bc bi bh, .int .i64 0]) ∧ Below w.heap.size w w'
  cr : ∀ w, ProfAt w A1 c1 A2 c2 ds ss → Calls Tryz.prog 12 #[profV A1 ds.length c1 A2 ss.length c2, .int .i64 src, dirV ac ai ah, dirV bc bi bh, .int .i64 st] w fun e w' => e = .returned (.tuple #[ivV zl zh, .int .i64 rr]) ∧ Below w.heap.size w w'
  bt : ∀ q d : Int, d * m < q → q < d * (m + 1) → ∃ xc xi xh xe : Int, (∀ w, Calls Tryz.prog 11 #[.int .i64 q, .int .i64 (d * n), .bool dn] w fun e w' => e = .returned (.tuple #[dirV xc xi xh, .int .i64 xe]) ∧ Below w.heap.size w w') ∧
    (xe = 0 → rr = 0 → ∃ EL xk xd xl xu ak ad al au, TopX A1 A2 c1 c2 ds ss src st ac ai ah bc bi bh xc xi xh zl zh v kn di EL xk xd xl xu ak ad al au)
theorem top_all (A1 A2 : Option Addr) (c1 c2 : Nat) {ds ss : List Int} {src n lo hi st kn di : Int} (dn : Bool) (h : fvE ds ss src n lo hi st kn di = 0) {j : Nat} (hj : lo + (j : Int) < hi) :
    1 ≤ lo ∧ hi ≤ 31 ∧ 2 ≤ n ∧ n ≤ 31 ∧ ∃ v ac ai ah bc bi bh rr zl zh, (fvL ds ss src n lo hi dn st kn di)[j]? = some v ∧ TopA A1 A2 c1 c2 ds ss src n (lo + j) dn st kn di v ac ai ah bc bi bh rr zl zh := by
  obtain ⟨g1, g2, g3, g4, v, hv, tc⟩ := top_is dn h hj
  refine ⟨g1, g2, g3, g4, v, (mdC (lo + j) n), (mdS (lo + j) n dn), (mdH (lo + j) n), (mdC (lo + j + 1) n), (mdS (lo + j + 1) n dn), (mdH (lo + j + 1) n), crE ds ss src (mdC (lo + j) n) (mdS (lo + j) n dn) (mdH (lo + j) n) (mdC (lo + j + 1) n) (mdS (lo + j + 1) n dn) (mdH (lo + j + 1) n) st, crL ds ss src (mdC (lo + j) n) (mdS (lo + j) n dn) (mdH (lo + j) n) (mdC (lo + j + 1) n) (mdS (lo + j + 1) n dn) (mdH (lo + j + 1) n) st, crH ds ss src (mdC (lo + j) n) (mdS (lo + j) n dn) (mdH (lo + j) n) (mdC (lo + j + 1) n) (mdS (lo + j + 1) n dn) (mdH (lo + j + 1) n) st, hv, tc.ne, ?_, ?_, ?_, ?_⟩
  · intro w; have q := implMakeDir_any (lo + j) n dn w; rw [tc.e1] at q; exact q
  · intro w; have q := implMakeDir_any (lo + j + 1) n dn w; rw [tc.e2] at q; exact q
  · intro w hw; exact implCellRange_any A1 A2 c1 c2 ds ss src _ _ _ _ _ _ st w hw
  · intro q d l1 l2
    refine ⟨mdC q (d * n), mdS q (d * n) dn, mdH q (d * n), mdE q (d * n), fun w => implMakeDir_any q (d * n) dn w, fun he hr => ?_⟩
    have u := tc.bt q (d * n) he (by have a := Int.mul_lt_mul_of_pos_right l1 (show 0 < n by omega); rw [show (lo + (j : Int)) * (d * n) = d * (lo + j) * n by grind]; exact a) (by have a := Int.mul_lt_mul_of_pos_right l2 (show 0 < n by omega); rw [show (lo + (j : Int) + 1) * (d * n) = d * (lo + j + 1) * n by grind]; exact a) hr
    have sa := md_sign dn tc.d1; have sb := md_sign dn tc.d2
    refine ⟨trL ds ss src (mdC q (d * n)) (mdS q (d * n) dn) (mdH q (d * n)) st, (trX ds ss src (mdC q (d * n)) (mdS q (d * n) dn) (mdH q (d * n)) st).k, (trX ds ss src (mdC q (d * n)) (mdS q (d * n) dn) (mdH q (d * n)) st).d, (trX ds ss src (mdC q (d * n)) (mdS q (d * n) dn) (mdH q (d * n)) st).lo, (trX ds ss src (mdC q (d * n)) (mdS q (d * n) dn) (mdH q (d * n)) st).hi, (trX ds ss src (mdC (lo + j) n) (mdS (lo + j) n dn) (mdH (lo + j) n) st).k, (trX ds ss src (mdC (lo + j) n) (mdS (lo + j) n dn) (mdH (lo + j) n) st).d, (trX ds ss src (mdC (lo + j) n) (mdS (lo + j) n dn) (mdH (lo + j) n) st).lo, (trX ds ss src (mdC (lo + j) n) (mdS (lo + j) n dn) (mdH (lo + j) n) st).hi, ⟨fun w => liesBetween_yes _ _ _ _ _ _ _ _ _ w (md_dir dn tc.d1) (md_dir dn tc.d2) u.dx (by unfold alB; rw [sa, sb]; simp) (by unfold alB; rw [sa, u.sx]; simp) u.l1 u.l2 u.l3, fun w hw => ?_, fun w hw => ?_, u.b1, u.b2, u.me⟩⟩
    · have q_ := implTraceRay_any A1 A2 c1 c2 ds ss src (mdC q (d * n)) (mdS q (d * n) dn) (mdH q (d * n)) st w hw; rw [u.tx] at q_; exact q_
    · have q_ := implTraceRay_any A1 A2 c1 c2 ds ss src (mdC (lo + j) n) (mdS (lo + j) n dn) (mdH (lo + j) n) st w hw; rw [u.ta, ← u.tl] at q_; exact q_
end

section
set_option linter.unusedSimpArgs false
set_option linter.unusedVariables false
open Go.RowKit

theorem fv_len {ds ss : List Int} {src n lo hi : Int} {dn : Bool} {st kn di : Int} (h : fvE ds ss src n lo hi st kn di = 0) : ((fvL ds ss src n lo hi dn st kn di).length : Int) = hi - lo := by
  have g := h
  unfold fvE at g
  split at g
  · rename_i h2
    obtain ⟨-, hf, -⟩ := fa_zero h2
    have f := fan_ok hf
    have a := f.l0; have b := f.l1; have c := f.h1; have d := f.n1
    unfold fvL
    rw [if_pos h, fvTo_len]
    omega
  · rename_i h2; exact absurd g h2
/-- behind a throw of the dice: the named blocks, none of which is the dice's -/
theorem dkeep {w W w1 : World} {D : Nat} (bs : List Nat) (hn : ∀ b ∈ bs, b < W.heap.size ∧ b ≠ D) (h0 : w.heap.size ≤ D) (hB : Below w.heap.size w W) (h : Chg D (D + 1) W w1) :
    Below w.heap.size w w1 ∧ W.heap.size ≤ w1.heap.size ∧
    (∀ b o, b ∈ bs → w1.cell? ⟨b, o, none⟩ = W.cell? ⟨b, o, none⟩) ∧
    (∀ b o, b ∈ bs → w1.frozen? ⟨b, o, none⟩ = W.frozen? ⟨b, o, none⟩) ∧
    (∀ b o, b < w.heap.size → w1.cell? ⟨b, o, none⟩ = w.cell? ⟨b, o, none⟩) ∧
    (∀ b, b ∈ bs → b < w1.heap.size) ∧ (∀ b, b ∈ bs → ¬ b = w1.heap.size) ∧ (∀ b, b < w.heap.size → b < w1.heap.size) := by
  have hs : W.heap.size = w1.heap.size := h.size.symm
  have h1 := hB.size
  have hB1 : Below w.heap.size w w1 := hB.trans ((h.below h0).mono (Nat.le_refl _))
  exact ⟨hB1, by omega, fun b o hb => h.far_ (hn b hb).2, fun b o hb => h.farF (hn b hb).2, fun b o hb => hB1.cell (p := ⟨_, o, none⟩) (by show b < _; omega),
    fun b hb => by have := (hn b hb).1; omega, fun b hb => by have := (hn b hb).1; omega, fun b hb => by omega⟩
set_option maxRecDepth 100000 in
set_option maxHeartbeats 32000000 in
theorem lawTop_any (A : Option Addr) (c : Nat) (xs : List Int) (w : World) (h : BytesAt w A c xs) :
    Calls Tryz.prog 3 #[.slice A xs.length c] w fun e w' => e = .returned (.bool true) ∧ Below w.heap.size w w' := by
  have hn := Nat.le_trans h.1 h.2.1
  have H := Lib.hid h; clear h
  by_cases hbig : (4096 : Int) < xs.length
  · go_enter Tryz.func3, Tryz.ntmps3
    go_wp2_with (go_at_call 4; refine (big_any _ _ _ _ hn).mono ?_; rintro e w' ⟨rfl, rfl⟩)
    go_ret
    exact ⟨rfl, Below.refl _ _⟩
  · go_enter Tryz.func3, Tryz.ntmps3
    go_wp2_with (go_at_call 4; refine (big_any _ _ _ _ hn).mono ?_; rintro e w' ⟨rfl, rfl⟩)
    refine (drawFanVerdicts_any A c xs _ H.out).mono ?_
    rintro e w3 ⟨⟨A1, c1, A2, c2, ts, ls, src, n, lo, hi, dn, st, kn, di, rfl, rp⟩, hb3⟩
    have P := Lib.hid rp.at; clear rp
    have HX := Lib.hid (H.out.below hb3 (Nat.le_refl _))
    have B3 := Lib.hid hb3; clear hb3
    obtain ⟨ev, hev⟩ : ∃ x, fvE ts ls src n lo hi st kn di = x := ⟨_, rfl⟩
    obtain ⟨FL, hFL⟩ : ∃ x, fvL ts ls src n lo hi dn st kn di = x := ⟨_, rfl⟩
    have F1 := Lib.hid (show ∀ w, ProfAt w A1 c1 A2 c2 ts ls → Calls Tryz.prog 6 #[profV A1 ts.length c1 A2 ls.length c2, .int .i64 src, .int .i64 n, .int .i64 lo, .int .i64 hi, .bool dn, .int .i64 st, .int .i64 kn, .int .i64 di] w fun e w' => (∃ A' c', e = .returned (.tuple #[.slice A' FL.length c', .int .i64 ev]) ∧ ResI w' w.heap.size w'.heap.size A' c' FL) ∧ Below w.heap.size w w' from fun w h => by have q := implFan_any A1 A2 c1 c2 ts ls src n lo hi dn st kn di w h; rw [hFL, hev] at q; exact q)
    have F2 := Lib.hid (show ∀ w, ProfAt w A1 c1 A2 c2 ts ls → Calls Tryz.prog 7 #[profV A1 ts.length c1 A2 ls.length c2, .int .i64 src, .int .i64 n, .int .i64 lo, .int .i64 hi, .bool dn, .int .i64 st, .int .i64 kn, .int .i64 di] w fun e w' => (∃ A' c', e = .returned (.tuple #[.slice A' FL.length c', .int .i64 ev]) ∧ ResI w' w.heap.size w'.heap.size A' c' FL) ∧ Below w.heap.size w w' from fun w h => by have q := specFan_any A1 A2 c1 c2 ts ls src n lo hi dn st kn di w h; rw [hFL, hev] at q; exact q)
    have EV := Lib.hid (show ev = 0 → (FL.length : Int) = hi - lo from fun e => by rw [← hFL]; exact fv_len (hev.trans e))
    have TO := Lib.hid (show ev = 0 → ∀ j : Nat, j < FL.length → 1 ≤ lo ∧ hi ≤ 31 ∧ 2 ≤ n ∧ n ≤ 31 ∧ ∃ v ac ai ah bc bi bh rr zl zh, FL[j]? = some v ∧ TopA A1 A2 c1 c2 ts ls src n (lo + j) dn st kn di v ac ai ah bc bi bh rr zl zh from fun e j h => by have q := EV.out e; rw [← hFL]; exact top_all A1 A2 c1 c2 dn (hev.trans e) (by omega))
    clear hev hFL
    go_wp2_with fail
    refine (F1.out _ (P.out.below (B := w3.heap.size) (by first | exact Below.refl _ _ | (go_grown; done) | exact bdrewN (by go_grown) _) (Nat.le_refl _))).mono ?_
    rintro e w4 ⟨⟨A3, c3, rfl, ri3⟩, hb4⟩
    have P := Lib.hid (((P.out).below (B := w3.heap.size) (by first | exact Below.refl _ _ | (go_grown; done) | exact bdrewN (by go_grown) _) (Nat.le_refl _)).below hb4 (Nat.le_refl _))
    have HX := Lib.hid (((HX.out).below (B := w3.heap.size) (by first | exact Below.refl _ _ | (go_grown; done) | exact bdrewN (by go_grown) _) (Nat.le_refl _)).below hb4 (Nat.le_refl _))
    have L3 := Lib.hid (ri3.at)
    obtain ⟨B4, hz4, q4, s4, t4, x4, y4, z4⟩ := bkeep (w := w3) [w3.heap.size] (by first | (simp; done) | (simp; omega)) (by first | (go_grown; done) | exact bdrewN (by go_grown) _) hb4; (try simp at hz4); clear hb4
    clear ri3
    go_wp2_with fail
    refine (F2.out _ (P.out.below (B := w4.heap.size) (by first | exact Below.refl _ _ | (go_grown; done) | exact bdrewN (by go_grown) _) (Nat.le_refl _))).mono ?_
    rintro e w5 ⟨⟨A4, c4, rfl, ri4⟩, hb5⟩
    have P := Lib.hid (((P.out).below (B := w4.heap.size) (by first | exact Below.refl _ _ | (go_grown; done) | exact bdrewN (by go_grown) _) (Nat.le_refl _)).below hb5 (Nat.le_refl _))
    have HX := Lib.hid (((HX.out).below (B := w4.heap.size) (by first | exact Below.refl _ _ | (go_grown; done) | exact bdrewN (by go_grown) _) (Nat.le_refl _)).below hb5 (Nat.le_refl _))
    have L3 := Lib.hid (((L3.out).below (B := w4.heap.size) (by first | exact Below.refl _ _ | (go_grown; done) | exact bdrewN (by go_grown) _) (Nat.le_refl _)).below hb5 (Nat.le_refl _))
    have L4 := Lib.hid (ri4.at)
    obtain ⟨B5, hz5, q5, s5, t5, x5, y5, z5⟩ := bkeep (w := w3) [w3.heap.size] (by first | (simp; done) | (simp; omega)) (by first | (go_grown; done) | exact bdrewN (by go_grown) _) hb5; (try simp at hz5); clear hb5
    clear ri4
    go_wp2_with fail
    refine (likeInts_same _ _ _ _ _ _ (L3.out.below (B := w5.heap.size) (by first | exact Below.refl _ _ | (go_grown; done) | exact bdrewN (by go_grown) _) (Nat.le_refl _)) (L4.out.below (B := w5.heap.size) (by first | exact Below.refl _ _ | (go_grown; done) | exact bdrewN (by go_grown) _) (Nat.le_refl _))).mono ?_
    rintro e w6 ⟨rfl, hb6⟩
    have P := Lib.hid (((P.out).below (B := w5.heap.size) (by first | exact Below.refl _ _ | (go_grown; done) | exact bdrewN (by go_grown) _) (Nat.le_refl _)).below hb6 (Nat.le_refl _))
    have HX := Lib.hid (((HX.out).below (B := w5.heap.size) (by first | exact Below.refl _ _ | (go_grown; done) | exact bdrewN (by go_grown) _) (Nat.le_refl _)).below hb6 (Nat.le_refl _))
    have L3 := Lib.hid (((L3.out).below (B := w5.heap.size) (by first | exact Below.refl _ _ | (go_grown; done) | exact bdrewN (by go_grown) _) (Nat.le_refl _)).below hb6 (Nat.le_refl _))
    have L4 := Lib.hid (((L4.out).below (B := w5.heap.size) (by first | exact Below.refl _ _ | (go_grown; done) | exact bdrewN (by go_grown) _) (Nat.le_refl _)).below hb6 (Nat.le_refl _))
    obtain ⟨B6, hz6, q6, s6, t6, x6, y6, z6⟩ := bkeep (w := w3) [w3.heap.size] (by first | (simp; done) | (simp; omega)) (by first | (go_grown; done) | exact bdrewN (by go_grown) _) hb6; (try simp at hz6); clear hb6
    by_cases he : ev = 0
    rotate_left
    · have he1 : (ev != 0) = true := by simpa using he
      go_wp2
      go_ret
      exact ⟨rfl, B3.out.trans (Below.mono (show Below w3.heap.size w3 _ by first | exact B6 | (go_grown; done) | exact bdrewN B6 _ | exact bdrewN (by go_grown) _ | (go_grown <;> exact bdrewN B6 _)) B3.out.size)⟩
    have TJ := Lib.hid (TO.out he)
    have elen := EV.out he
    clear EV TO
    subst he
    by_cases hl : FL.length = 0
    · have hl1 : ((FL.length : Int) == 0) = true := by rw [hl]; rfl
      go_wp2
      go_ret
      exact ⟨rfl, B3.out.trans (Below.mono (show Below w3.heap.size w3 _ by first | exact B6 | (go_grown; done) | exact bdrewN B6 _ | exact bdrewN (by go_grown) _ | (go_grown <;> exact bdrewN B6 _)) B3.out.size)⟩
    have hl1 : ((FL.length : Int) == 0) = false := beq_eq_false_iff_ne.2 (by omega)
    go_wp2_with fail
    refine (roll_any A c xs _ _ (HX.out.below (B := w6.heap.size) (by first | exact Below.refl _ _ | (go_grown; done) | exact bdrewN (by go_grown) _) (Nat.le_refl _))).mono ?_
    rintro e w7 ⟨D, rfl, hD, dd, hb7⟩
    (try simp only [World.size_alloc, World.size_drew, size_set] at hD)
    have hD0 : w6.heap.size ≤ D := by first | omega | (simp at hD; omega)
    have OP := Lib.hid P.out; have OL4 := Lib.hid L4.out
    clear P L4
    have DD := Lib.hid dd; have lD := dd.lt; clear dd
    have lt3 : w3.heap.size < w6.heap.size := by omega
    clear HX L3
    obtain ⟨B7, hz7, q7, s7, t7, x7, y7, z7⟩ := bkeep (w := w6) [w3.heap.size] (by first | (simp; done) | (simp; omega)) (by first | (go_grown; done) | exact bdrewN (by go_grown) _) hb7; (try simp at hz7); clear hb7
    have wm : IntKind.i64.wrap (hi - lo) = (FL.length : Int) := by rw [elen]; exact IntWalk.i64_in _ (by have := (TJ.out 0 (by omega)); omega)
    have q1 : 1 ≤ (FL.length : Int) := by omega
    have q2 : (FL.length : Int) ≤ 1000000000000 := by have := (TJ.out 0 (by omega)); omega
    go_wp2_with fail
    refine (below_any D A c xs _ _ (DD.out.below (B := w7.heap.size) (by first | exact Below.refl _ _ | (go_grown; done) | exact bdrewN (by go_grown) _) lD) (by omega) (by omega)).mono ?_
    rintro e w8 ⟨⟨r_, rfl, r_0, r_1⟩, dd8, ch8⟩
    have DD := Lib.hid dd8; clear dd8
    obtain ⟨B8, hz8, q8, s8, t8, x8, y8, z8⟩ := dkeep (w := w6) [w3.heap.size] (by first | (simp; done) | (simp; omega)) hD0 (by first | (go_grown; done) | exact bdrewN (by go_grown) _) ch8; (try simp at hz8); clear ch8
    have lD : D < w8.heap.size := by omega
    obtain ⟨j, rfl⟩ := Int.eq_ofNat_of_zero_le r_0
    obtain ⟨n0, n1, n2, n3, v, ac, ai, ah, bc, bi, bh, rr, zl, zh, hv, ta_⟩ := TJ.out j (by omega)
    have TA := Lib.hid ta_; clear ta_
    obtain ⟨b4, o4, y4_, rfl, hb4, hy4, k4_⟩ := OL4.out.at_ (show j < FL.length by omega)
    rw [hv] at hy4; injection hy4 with hy4; subst hy4; clear hv
    have wj : IntKind.i64.wrap (lo + (j : Int)) = lo + (j : Int) := IntWalk.i64_in _ (by omega)
    have wj1 : IntKind.i64.wrap (lo + (j : Int) + 1) = lo + (j : Int) + 1 := IntWalk.i64_in _ (by omega)
    have wjl : IntKind.i64.wrap (lo + (j : Int) - lo) = (j : Int) := by rw [show lo + (j : Int) - lo = j by omega]; exact IntWalk.i64_in _ (by omega)
    have w3j : IntKind.i64.wrap (3 * (lo + (j : Int))) = 3 * (lo + (j : Int)) := IntWalk.i64_in _ (by omega)
    have w3j1 : IntKind.i64.wrap (3 * (lo + (j : Int)) + 1) = 3 * (lo + (j : Int)) + 1 := IntWalk.i64_in _ (by omega)
    have w2j : IntKind.i64.wrap (2 * (lo + (j : Int))) = 2 * (lo + (j : Int)) := IntWalk.i64_in _ (by omega)
    have w2j1 : IntKind.i64.wrap (2 * (lo + (j : Int)) + 1) = 2 * (lo + (j : Int)) + 1 := IntWalk.i64_in _ (by omega)
    have w3n : IntKind.i64.wrap (3 * n) = 3 * n := IntWalk.i64_in _ (by omega)
    have w2n : IntKind.i64.wrap (2 * n) = 2 * n := IntWalk.i64_in _ (by omega)
    have j0 : (0 : Int) ≤ (j : Int) := by omega
    have j1 : (j : Int) < (FL.length : Int) := by omega
    go_wp2_with fail
    refine (TA.out.m1 _).mono ?_
    rintro e w9 ⟨rfl, hb9⟩
    have DD := Lib.hid ((DD.out.below (B := w8.heap.size) (by first | exact Below.refl _ _ | (go_grown; done) | exact bdrewN (by go_grown) _) lD).below hb9 (by first | omega | (simp; done) | (simp; omega)))
    obtain ⟨B9, hz9, q9, s9, t9, x9, y9, z9⟩ := bkeep (w := w6) [w3.heap.size] (by first | (simp; done) | (simp; omega)) (by first | (go_grown; done) | exact bdrewN (by go_grown) _) hb9; (try simp at hz9); clear hb9
    have lD : D < w9.heap.size := by omega
    have nD9 : (w9.heap.size = D) = False := eq_false (by omega)
    go_wp2_with fail
    refine (TA.out.m2 _).mono ?_
    rintro e w10 ⟨rfl, hb10⟩
    have DD := Lib.hid ((DD.out.below (B := w9.heap.size) (by first | exact Below.refl _ _ | (go_grown; done) | exact bdrewN (by go_grown) _) lD).below hb10 (by first | omega | (simp; done) | (simp; omega)))
    obtain ⟨B10, hz10, q10, s10, t10, x10, y10, z10⟩ := bkeep (w := w6) [w3.heap.size, w9.heap.size] (by first | (simp; done) | (simp; omega)) (by first | (go_grown; done) | exact bdrewN (by go_grown) _) hb10; (try simp at hz10); clear hb10
    have lD : D < w10.heap.size := by omega
    have nD10 : (w10.heap.size = D) = False := eq_false (by omega)
    go_wp2_with fail
    refine (TA.out.cr _ (OP.out.below (B := w6.heap.size) (by first | exact B10 | (go_grown; done) | exact bdrewN B10 _ | exact bdrewN (by go_grown) _) (Nat.le_refl _))).mono ?_
    rintro e w11 ⟨rfl, hb11⟩
    have DD := Lib.hid ((DD.out.below (B := w10.heap.size) (by first | exact Below.refl _ _ | (go_grown; done) | exact bdrewN (by go_grown) _) lD).below hb11 (by first | omega | (simp; done) | (simp; omega)))
    obtain ⟨B11, hz11, q11, s11, t11, x11, y11, z11⟩ := bkeep (w := w6) [w3.heap.size, w9.heap.size, w10.heap.size] (by first | (simp; done) | (simp; omega)) (by first | (go_grown; done) | exact bdrewN (by go_grown) _) hb11; (try simp at hz11); clear hb11
    have lD : D < w11.heap.size := by omega
    have nD11 : (w11.heap.size = D) = False := eq_false (by omega)
    go_wp2_with fail
    refine (below_any D A c xs _ _ (DD.out.below (B := w11.heap.size) (by first | exact Below.refl _ _ | (go_grown; done) | exact bdrewN (by go_grown) _) lD) (by omega) (by omega)).mono ?_
    rintro e w12 ⟨⟨s_, rfl, s_0, s_1⟩, dd12, ch12⟩
    have DD := Lib.hid dd12; clear dd12
    obtain ⟨B12, hz12, q12, s12, t12, x12, y12, z12⟩ := dkeep (w := w6) [w3.heap.size, w9.heap.size, w10.heap.size, w11.heap.size] (by first | (simp; done) | (simp; omega)) hD0 (by first | (go_grown; done) | exact bdrewN (by go_grown) _) ch12; (try simp at hz12); clear ch12
    have lD : D < w12.heap.size := by omega
    have w3s : IntKind.i64.wrap (3 * (lo + (j : Int)) + 1 + s_) = 3 * (lo + (j : Int)) + 1 + s_ := IntWalk.i64_in _ (by omega)
    obtain ⟨yc, yi, yh, ye, my_, ty_⟩ := TA.out.bt (3 * (lo + (j : Int)) + 1 + s_) 3 (by omega) (by omega)
    have MY := Lib.hid my_; have TY := Lib.hid ty_; clear my_ ty_
    go_wp2_with fail
    refine (MY.out _).mono ?_
    rintro e w13 ⟨rfl, hb13⟩
    have DD := Lib.hid ((DD.out.below (B := w12.heap.size) (by first | exact Below.refl _ _ | (go_grown; done) | exact bdrewN (by go_grown) _) lD).below hb13 (by first | omega | (simp; done) | (simp; omega)))
    obtain ⟨B13, hz13, q13, s13, t13, x13, y13, z13⟩ := bkeep (w := w6) [w3.heap.size, w9.heap.size, w10.heap.size, w11.heap.size] (by first | (simp; done) | (simp; omega)) (by first | (go_grown; done) | exact bdrewN (by go_grown) _) hb13; (try simp at hz13); clear hb13
    have lD : D < w13.heap.size := by omega
    have nD13 : (w13.heap.size = D) = False := eq_false (by omega)
    go_wp2_with fail
    refine (below_any D A c xs _ _ (DD.out.below (B := w13.heap.size) (by first | exact Below.refl _ _ | (go_grown; done) | exact bdrewN (by go_grown) _) lD) (by omega) (by omega)).mono ?_
    rintro e w14 ⟨⟨u_, rfl, u_0, u_1⟩, dd14, ch14⟩
    have DD := Lib.hid dd14; clear dd14
    obtain ⟨B14, hz14, q14, s14, t14, x14, y14, z14⟩ := dkeep (w := w6) [w3.heap.size, w9.heap.size, w10.heap.size, w11.heap.size, w13.heap.size] (by first | (simp; done) | (simp; omega)) hD0 (by first | (go_grown; done) | exact bdrewN (by go_grown) _) ch14; (try simp at hz14); clear ch14
    have lD : D < w14.heap.size := by omega
    clear DD
    have ne0 : (w3.heap.size = w13.heap.size) = False := eq_false (by omega)
    have nf0 : (w13.heap.size = w3.heap.size) = False := eq_false (by omega)
    have ne1 : (w9.heap.size = w13.heap.size) = False := eq_false (by omega)
    have nf1 : (w13.heap.size = w9.heap.size) = False := eq_false (by omega)
    have ne2 : (w10.heap.size = w13.heap.size) = False := eq_false (by omega)
    have nf2 : (w13.heap.size = w10.heap.size) = False := eq_false (by omega)
    have ne3 : (w11.heap.size = w13.heap.size) = False := eq_false (by omega)
    have nf3 : (w13.heap.size = w11.heap.size) = False := eq_false (by omega)
    refine genS (S := fun w' => Below w6.heap.size w6 w' ∧ w3.heap.size < w'.heap.size ∧ w9.heap.size < w'.heap.size ∧ w10.heap.size < w'.heap.size ∧ w11.heap.size < w'.heap.size ∧ w13.heap.size < w'.heap.size ∧ w'.cell? ⟨w3.heap.size, 0, none⟩ = some (.slice A1 (List.length ts) c1) ∧ w'.cell? ⟨w3.heap.size, 1, none⟩ = some (.slice A2 (List.length ls) c2) ∧ w'.cell? ⟨w9.heap.size, 0, none⟩ = some (.int .i64 ac) ∧ w'.cell? ⟨w9.heap.size, 1, none⟩ = some (.int .i64 ai) ∧ w'.cell? ⟨w9.heap.size, 2, none⟩ = some (.int .i64 ah) ∧ w'.cell? ⟨w10.heap.size, 0, none⟩ = some (.int .i64 bc) ∧ w'.cell? ⟨w10.heap.size, 1, none⟩ = some (.int .i64 bi) ∧ w'.cell? ⟨w10.heap.size, 2, none⟩ = some (.int .i64 bh) ∧ w'.cell? ⟨w11.heap.size, 0, none⟩ = some (.int .i64 zl) ∧ w'.cell? ⟨w11.heap.size, 1, none⟩ = some (.int .i64 zh) ∧ w'.cell? ⟨w13.heap.size, 0, none⟩ = some (.int .i64 yc) ∧ w'.cell? ⟨w13.heap.size, 1, none⟩ = some (.int .i64 yi) ∧ w'.cell? ⟨w13.heap.size, 2, none⟩ = some (.int .i64 yh) ∧ (∀ o, w'.frozen? ⟨w13.heap.size, o, none⟩ = false)) ⟨(by first | exact B14 | exact bdrewN B14 _ | (go_grown; done) | (go_grown <;> exact bdrewN B14 _)), by first | omega | (simp; done) | (simp; omega), by first | omega | (simp; done) | (simp; omega), by first | omega | (simp; done) | (simp; omega), by first | omega | (simp; done) | (simp; omega), by first | omega | (simp; done) | (simp; omega), by simp [*, go_sem], by simp [*, go_sem], by simp [*, go_sem], by simp [*, go_sem], by simp [*, go_sem], by simp [*, go_sem], by simp [*, go_sem], by simp [*, go_sem], by simp [*, go_sem], by simp [*, go_sem], by simp [*, go_sem], by simp [*, go_sem], by simp [*, go_sem], fun o => by simp [*, go_sem]⟩ ?_
    clear q8 s8 t8 x8 y8 z8 hz8 q9 s9 t9 x9 y9 z9 hz9 q10 s10 t10 x10 y10 z10 hz10 q11 s11 t11 x11 y11 z11 hz11 q12 s12 t12 x12 y12 z12 hz12 q13 s13 t13 x13 y13 z13 hz13 q14 s14 t14 x14 y14 z14 hz14 lD
    clear q4 s4 t4 x4 y4 z4 q5 s5 t5 x5 y5 z5 q6 s6 t6 x6 y6 z6 q7 s7 t7 x7 y7 z7
    rintro w20 ⟨B20, lt20_0, lt20_1, lt20_2, lt20_3, lt20_4, c20_0, c20_1, c20_2, c20_3, c20_4, c20_5, c20_6, c20_7, c20_8, c20_9, c20_10, c20_11, c20_12, fz20⟩
    clear B7 B8 B9 B10 B11 B12 B13 B14
    have k20 := (bAt B20 (b := b4) (o := o4 + j) hb4).trans k4_
    by_cases hu : u_ = 0
    · subst hu
      obtain ⟨xc, xi, xh, xe, mx_, tx_⟩ := TA.out.bt (2 * (lo + (j : Int)) + 1) 2 (by omega) (by omega)
      have MX := Lib.hid mx_; have TX := Lib.hid tx_; clear mx_ tx_
      go_wp2_with fail
      refine (MX.out _).mono ?_
      rintro e w21 ⟨rfl, hb21⟩
      obtain ⟨B21, hz21, q21, s21, t21, x21, y21, z21⟩ := bkeep (w := w6) [w3.heap.size, w9.heap.size, w10.heap.size, w11.heap.size, w13.heap.size] (by first | (simp; done) | (simp; omega)) (by first | (go_grown; done) | exact bdrewN (by go_grown) _) hb21; (try simp at hz21); clear hb21
      by_cases hr : rr = 0
      rotate_left
      · have hr1 : (rr != 0) = true := by simpa using hr
        have hr2 : (rr == 0) = false := beq_eq_false_iff_ne.2 hr
        have hv1 : (v != 0) = true := by simpa using TA.out.ne hr
        go_wp2
        (first | go_ret2 | go_ret)
        all_goals exact ⟨ret_bool (by first | rfl | (simp; done) | (simp; omega)), B3.out.trans (Below.mono (show Below w3.heap.size w3 _ by exact B6.trans (Below.mono (show Below w6.heap.size w6 _ by first | exact B21 | (go_grown; done) | exact bdrewN B21 _ | exact bdrewN (by go_grown) _ | (go_grown <;> exact bdrewN B21 _)) B6.size)) B3.out.size)⟩
      by_cases hx : xe = 0
      rotate_left
      · have hx1 : (xe != 0) = true := by simpa using hx
        subst hr
        go_wp2
        (first | go_ret2 | go_ret)
        all_goals exact ⟨ret_bool (by first | rfl | (simp; done) | (simp; omega)), B3.out.trans (Below.mono (show Below w3.heap.size w3 _ by exact B6.trans (Below.mono (show Below w6.heap.size w6 _ by first | exact B21 | (go_grown; done) | exact bdrewN B21 _ | exact bdrewN (by go_grown) _ | (go_grown <;> exact bdrewN B21 _)) B6.size)) B3.out.size)⟩
      subst hx
      subst hr
      obtain ⟨EL, xk, xd, xl, xu, ak, ad, al, au, tx_⟩ := TX.out rfl rfl
      have TT := Lib.hid tx_; have b1_ := tx_.b1; have b2_ := tx_.b2; clear tx_
      go_wp2_with fail
      refine (TT.out.lies _).mono ?_
      rintro e w22 ⟨rfl, hb22⟩
      obtain ⟨B22, hz22, q22, s22, t22, x22, y22, z22⟩ := bkeep (w := w6) [w3.heap.size, w9.heap.size, w10.heap.size, w11.heap.size, w13.heap.size] (by first | (simp; done) | (simp; omega)) (by first | (go_grown; done) | exact bdrewN (by go_grown) _) hb22; (try simp at hz22); clear hb22
      go_wp2_with fail
      refine (TT.out.tx _ (OP.out.below (B := w6.heap.size) (by first | exact B22 | (go_grown; done) | exact bdrewN B22 _ | exact bdrewN (by go_grown) _) (Nat.le_refl _))).mono ?_
      rintro e w23 ⟨⟨A5, c5, rfl, ri5⟩, hb23⟩
      have L5 := Lib.hid (ri5.at)
      obtain ⟨B23, hz23, q23, s23, t23, x23, y23, z23⟩ := bkeep (w := w6) [w3.heap.size, w9.heap.size, w10.heap.size, w11.heap.size, w13.heap.size] (by first | (simp; done) | (simp; omega)) (by first | (go_grown; done) | exact bdrewN (by go_grown) _) hb23; (try simp at hz23); clear hb23
      clear ri5
      go_wp2_with fail
      refine (TT.out.ta _ (OP.out.below (B := w6.heap.size) (by first | exact B23 | (go_grown; done) | exact bdrewN B23 _ | exact bdrewN (by go_grown) _) (Nat.le_refl _))).mono ?_
      rintro e w24 ⟨⟨A6, c6, rfl, ri6⟩, hb24⟩
      have L5 := Lib.hid (((L5.out).below (B := w23.heap.size) (by first | exact Below.refl _ _ | (go_grown; done) | exact bdrewN (by go_grown) _) (Nat.le_refl _)).below hb24 (Nat.le_refl _))
      have L6 := Lib.hid (ri6.at)
      obtain ⟨B24, hz24, q24, s24, t24, x24, y24, z24⟩ := bkeep (w := w6) [w3.heap.size, w9.heap.size, w10.heap.size, w11.heap.size, w13.heap.size, w23.heap.size] (by first | (simp; done) | (simp; omega)) (by first | (go_grown; done) | exact bdrewN (by go_grown) _) hb24; (try simp at hz24); clear hb24
      clear ri6
      go_wp2_with fail
      refine (likeInts_same _ _ _ _ _ _ (L5.out.below (B := w24.heap.size) (by first | exact Below.refl _ _ | (go_grown; done) | exact bdrewN (by go_grown) _) (Nat.le_refl _)) (L6.out.below (B := w24.heap.size) (by first | exact Below.refl _ _ | (go_grown; done) | exact bdrewN (by go_grown) _) (Nat.le_refl _))).mono ?_
      rintro e w25 ⟨rfl, hb25⟩
      have L5 := Lib.hid (((L5.out).below (B := w24.heap.size) (by first | exact Below.refl _ _ | (go_grown; done) | exact bdrewN (by go_grown) _) (Nat.le_refl _)).below hb25 (Nat.le_refl _))
      have L6 := Lib.hid (((L6.out).below (B := w24.heap.size) (by first | exact Below.refl _ _ | (go_grown; done) | exact bdrewN (by go_grown) _) (Nat.le_refl _)).below hb25 (Nat.le_refl _))
      obtain ⟨B25, hz25, q25, s25, t25, x25, y25, z25⟩ := bkeep (w := w6) [w3.heap.size, w9.heap.size, w10.heap.size, w11.heap.size, w13.heap.size, w23.heap.size, w24.heap.size] (by first | (simp; done) | (simp; omega)) (by first | (go_grown; done) | exact bdrewN (by go_grown) _) hb25; (try simp at hz25); clear hb25
      have g1_ : decide (xu < zl) = false := decide_eq_false (by omega)
      have g2_ : decide (zh < xl) = false := decide_eq_false (by omega)
      by_cases e1_ : xk = kn
      rotate_left
      · have f1_ : (xk == kn) = false := beq_eq_false_iff_ne.2 e1_
        go_wp2
        (first | go_ret2 | go_ret)
        all_goals exact ⟨ret_bool (by first | rfl | (simp; done) | (simp; omega)), B3.out.trans (Below.mono (show Below w3.heap.size w3 _ by exact B6.trans (Below.mono (show Below w6.heap.size w6 _ by first | exact B25 | (go_grown; done) | exact bdrewN B25 _ | exact bdrewN (by go_grown) _ | (go_grown <;> exact bdrewN B25 _)) B6.size)) B3.out.size)⟩
      by_cases e2_ : xl = di
      rotate_left
      · have f1_ : (xk == kn) = true := beq_iff_eq.2 e1_
        have f2_ : (xl == di) = false := beq_eq_false_iff_ne.2 e2_
        go_wp2
        (first | go_ret2 | go_ret)
        all_goals exact ⟨ret_bool (by first | rfl | (simp; done) | (simp; omega)), B3.out.trans (Below.mono (show Below w3.heap.size w3 _ by exact B6.trans (Below.mono (show Below w6.heap.size w6 _ by first | exact B25 | (go_grown; done) | exact bdrewN B25 _ | exact bdrewN (by go_grown) _ | (go_grown <;> exact bdrewN B25 _)) B6.size)) B3.out.size)⟩
      by_cases e3_ : xu = di
      rotate_left
      · have f1_ : (xk == kn) = true := beq_iff_eq.2 e1_
        have f2_ : (xl == di) = true := beq_iff_eq.2 e2_
        have f3_ : (xu == di) = false := beq_eq_false_iff_ne.2 e3_
        go_wp2
        (first | go_ret2 | go_ret)
        all_goals exact ⟨ret_bool (by first | rfl | (simp; done) | (simp; omega)), B3.out.trans (Below.mono (show Below w3.heap.size w3 _ by exact B6.trans (Below.mono (show Below w6.heap.size w6 _ by first | exact B25 | (go_grown; done) | exact bdrewN B25 _ | exact bdrewN (by go_grown) _ | (go_grown <;> exact bdrewN B25 _)) B6.size)) B3.out.size)⟩
      have hv0 := TT.out.me e1_ e2_ e3_
      have hv1 : (v != 0) = true := by simpa using hv0
      have f1_ : (xk == kn) = true := beq_iff_eq.2 e1_
      have f2_ : (xl == di) = true := beq_iff_eq.2 e2_
      have f3_ : (xu == di) = true := beq_iff_eq.2 e3_
      go_wp2
      (first | go_ret2 | go_ret)
      all_goals exact ⟨ret_bool (by first | rfl | (simp; done) | (simp; omega)), B3.out.trans (Below.mono (show Below w3.heap.size w3 _ by exact B6.trans (Below.mono (show Below w6.heap.size w6 _ by first | exact B25 | (go_grown; done) | exact bdrewN B25 _ | exact bdrewN (by go_grown) _ | (go_grown <;> exact bdrewN B25 _)) B6.size)) B3.out.size)⟩
    · have hu1 : (u_ == 0) = false := beq_eq_false_iff_ne.2 hu
      by_cases hy : ye = 0
      · subst hy
        by_cases hr : rr = 0
        rotate_left
        · have hr1 : (rr != 0) = true := by simpa using hr
          have hr2 : (rr == 0) = false := beq_eq_false_iff_ne.2 hr
          have hv1 : (v != 0) = true := by simpa using TA.out.ne hr
          go_wp2
          (first | go_ret2 | go_ret)
          all_goals exact ⟨ret_bool (by first | rfl | (simp; done) | (simp; omega)), B3.out.trans (Below.mono (show Below w3.heap.size w3 _ by exact B6.trans (Below.mono (show Below w6.heap.size w6 _ by first | exact B20 | (go_grown; done) | exact bdrewN B20 _ | exact bdrewN (by go_grown) _ | (go_grown <;> exact bdrewN B20 _)) B6.size)) B3.out.size)⟩
        subst hr
        obtain ⟨EL, xk, xd, xl, xu, ak, ad, al, au, tx_⟩ := TY.out rfl rfl
        have TT := Lib.hid tx_; have b1_ := tx_.b1; have b2_ := tx_.b2; clear tx_
        go_wp2_with fail
        refine (TT.out.lies _).mono ?_
        rintro e w21 ⟨rfl, hb21⟩
        obtain ⟨B21, hz21, q21, s21, t21, x21, y21, z21⟩ := bkeep (w := w6) [w3.heap.size, w9.heap.size, w10.heap.size, w11.heap.size, w13.heap.size] (by first | (simp; done) | (simp; omega)) (by first | (go_grown; done) | exact bdrewN (by go_grown) _) hb21; (try simp at hz21); clear hb21
        go_wp2_with fail
        refine (TT.out.tx _ (OP.out.below (B := w6.heap.size) (by first | exact B21 | (go_grown; done) | exact bdrewN B21 _ | exact bdrewN (by go_grown) _) (Nat.le_refl _))).mono ?_
        rintro e w22 ⟨⟨A5, c5, rfl, ri5⟩, hb22⟩
        have L5 := Lib.hid (ri5.at)
        obtain ⟨B22, hz22, q22, s22, t22, x22, y22, z22⟩ := bkeep (w := w6) [w3.heap.size, w9.heap.size, w10.heap.size, w11.heap.size, w13.heap.size] (by first | (simp; done) | (simp; omega)) (by first | (go_grown; done) | exact bdrewN (by go_grown) _) hb22; (try simp at hz22); clear hb22
        clear ri5
        go_wp2_with fail
        refine (TT.out.ta _ (OP.out.below (B := w6.heap.size) (by first | exact B22 | (go_grown; done) | exact bdrewN B22 _ | exact bdrewN (by go_grown) _) (Nat.le_refl _))).mono ?_
        rintro e w23 ⟨⟨A6, c6, rfl, ri6⟩, hb23⟩
        have L5 := Lib.hid (((L5.out).below (B := w22.heap.size) (by first | exact Below.refl _ _ | (go_grown; done) | exact bdrewN (by go_grown) _) (Nat.le_refl _)).below hb23 (Nat.le_refl _))
        have L6 := Lib.hid (ri6.at)
        obtain ⟨B23, hz23, q23, s23, t23, x23, y23, z23⟩ := bkeep (w := w6) [w3.heap.size, w9.heap.size, w10.heap.size, w11.heap.size, w13.heap.size, w22.heap.size] (by first | (simp; done) | (simp; omega)) (by first | (go_grown; done) | exact bdrewN (by go_grown) _) hb23; (try simp at hz23); clear hb23
        clear ri6
        go_wp2_with fail
        refine (likeInts_same _ _ _ _ _ _ (L5.out.below (B := w23.heap.size) (by first | exact Below.refl _ _ | (go_grown; done) | exact bdrewN (by go_grown) _) (Nat.le_refl _)) (L6.out.below (B := w23.heap.size) (by first | exact Below.refl _ _ | (go_grown; done) | exact bdrewN (by go_grown) _) (Nat.le_refl _))).mono ?_
        rintro e w24 ⟨rfl, hb24⟩
        have L5 := Lib.hid (((L5.out).below (B := w23.heap.size) (by first | exact Below.refl _ _ | (go_grown; done) | exact bdrewN (by go_grown) _) (Nat.le_refl _)).below hb24 (Nat.le_refl _))
        have L6 := Lib.hid (((L6.out).below (B := w23.heap.size) (by first | exact Below.refl _ _ | (go_grown; done) | exact bdrewN (by go_grown) _) (Nat.le_refl _)).below hb24 (Nat.le_refl _))
        obtain ⟨B24, hz24, q24, s24, t24, x24, y24, z24⟩ := bkeep (w := w6) [w3.heap.size, w9.heap.size, w10.heap.size, w11.heap.size, w13.heap.size, w22.heap.size, w23.heap.size] (by first | (simp; done) | (simp; omega)) (by first | (go_grown; done) | exact bdrewN (by go_grown) _) hb24; (try simp at hz24); clear hb24
        have g1_ : decide (xu < zl) = false := decide_eq_false (by omega)
        have g2_ : decide (zh < xl) = false := decide_eq_false (by omega)
        by_cases e1_ : xk = kn
        rotate_left
        · have f1_ : (xk == kn) = false := beq_eq_false_iff_ne.2 e1_
          go_wp2
          (first | go_ret2 | go_ret)
          all_goals exact ⟨ret_bool (by first | rfl | (simp; done) | (simp; omega)), B3.out.trans (Below.mono (show Below w3.heap.size w3 _ by exact B6.trans (Below.mono (show Below w6.heap.size w6 _ by first | exact B24 | (go_grown; done) | exact bdrewN B24 _ | exact bdrewN (by go_grown) _ | (go_grown <;> exact bdrewN B24 _)) B6.size)) B3.out.size)⟩
        by_cases e2_ : xl = di
        rotate_left
        · have f1_ : (xk == kn) = true := beq_iff_eq.2 e1_
          have f2_ : (xl == di) = false := beq_eq_false_iff_ne.2 e2_
          go_wp2
          (first | go_ret2 | go_ret)
          all_goals exact ⟨ret_bool (by first | rfl | (simp; done) | (simp; omega)), B3.out.trans (Below.mono (show Below w3.heap.size w3 _ by exact B6.trans (Below.mono (show Below w6.heap.size w6 _ by first | exact B24 | (go_grown; done) | exact bdrewN B24 _ | exact bdrewN (by go_grown) _ | (go_grown <;> exact bdrewN B24 _)) B6.size)) B3.out.size)⟩
        by_cases e3_ : xu = di
        rotate_left
        · have f1_ : (xk == kn) = true := beq_iff_eq.2 e1_
          have f2_ : (xl == di) = true := beq_iff_eq.2 e2_
          have f3_ : (xu == di) = false := beq_eq_false_iff_ne.2 e3_
          go_wp2
          (first | go_ret2 | go_ret)
          all_goals exact ⟨ret_bool (by first | rfl | (simp; done) | (simp; omega)), B3.out.trans (Below.mono (show Below w3.heap.size w3 _ by exact B6.trans (Below.mono (show Below w6.heap.size w6 _ by first | exact B24 | (go_grown; done) | exact bdrewN B24 _ | exact bdrewN (by go_grown) _ | (go_grown <;> exact bdrewN B24 _)) B6.size)) B3.out.size)⟩
        have hv0 := TT.out.me e1_ e2_ e3_
        have hv1 : (v != 0) = true := by simpa using hv0
        have f1_ : (xk == kn) = true := beq_iff_eq.2 e1_
        have f2_ : (xl == di) = true := beq_iff_eq.2 e2_
        have f3_ : (xu == di) = true := beq_iff_eq.2 e3_
        go_wp2
        (first | go_ret2 | go_ret)
        all_goals exact ⟨ret_bool (by first | rfl | (simp; done) | (simp; omega)), B3.out.trans (Below.mono (show Below w3.heap.size w3 _ by exact B6.trans (Below.mono (show Below w6.heap.size w6 _ by first | exact B24 | (go_grown; done) | exact bdrewN B24 _ | exact bdrewN (by go_grown) _ | (go_grown <;> exact bdrewN B24 _)) B6.size)) B3.out.size)⟩
      · have hy1 : (ye != 0) = true := by simpa using hy
        obtain ⟨xc, xi, xh, xe, mx_, tx_⟩ := TA.out.bt (2 * (lo + (j : Int)) + 1) 2 (by omega) (by omega)
        have MX := Lib.hid mx_; have TX := Lib.hid tx_; clear mx_ tx_
        go_wp2_with fail
        refine (MX.out _).mono ?_
        rintro e w21 ⟨rfl, hb21⟩
        obtain ⟨B21, hz21, q21, s21, t21, x21, y21, z21⟩ := bkeep (w := w6) [w3.heap.size, w9.heap.size, w10.heap.size, w11.heap.size, w13.heap.size] (by first | (simp; done) | (simp; omega)) (by first | (go_grown; done) | exact bdrewN (by go_grown) _) hb21; (try simp at hz21); clear hb21
        by_cases hr : rr = 0
        rotate_left
        · have hr1 : (rr != 0) = true := by simpa using hr
          have hr2 : (rr == 0) = false := beq_eq_false_iff_ne.2 hr
          have hv1 : (v != 0) = true := by simpa using TA.out.ne hr
          go_wp2
          (first | go_ret2 | go_ret)
          all_goals exact ⟨ret_bool (by first | rfl | (simp; done) | (simp; omega)), B3.out.trans (Below.mono (show Below w3.heap.size w3 _ by exact B6.trans (Below.mono (show Below w6.heap.size w6 _ by first | exact B21 | (go_grown; done) | exact bdrewN B21 _ | exact bdrewN (by go_grown) _ | (go_grown <;> exact bdrewN B21 _)) B6.size)) B3.out.size)⟩
        by_cases hx : xe = 0
        rotate_left
        · have hx1 : (xe != 0) = true := by simpa using hx
          subst hr
          go_wp2
          (first | go_ret2 | go_ret)
          all_goals exact ⟨ret_bool (by first | rfl | (simp; done) | (simp; omega)), B3.out.trans (Below.mono (show Below w3.heap.size w3 _ by exact B6.trans (Below.mono (show Below w6.heap.size w6 _ by first | exact B21 | (go_grown; done) | exact bdrewN B21 _ | exact bdrewN (by go_grown) _ | (go_grown <;> exact bdrewN B21 _)) B6.size)) B3.out.size)⟩
        subst hx
        subst hr
        obtain ⟨EL, xk, xd, xl, xu, ak, ad, al, au, tx_⟩ := TX.out rfl rfl
        have TT := Lib.hid tx_; have b1_ := tx_.b1; have b2_ := tx_.b2; clear tx_
        go_wp2_with fail
        refine (TT.out.lies _).mono ?_
        rintro e w22 ⟨rfl, hb22⟩
        obtain ⟨B22, hz22, q22, s22, t22, x22, y22, z22⟩ := bkeep (w := w6) [w3.heap.size, w9.heap.size, w10.heap.size, w11.heap.size, w13.heap.size] (by first | (simp; done) | (simp; omega)) (by first | (go_grown; done) | exact bdrewN (by go_grown) _) hb22; (try simp at hz22); clear hb22
        go_wp2_with fail
        refine (TT.out.tx _ (OP.out.below (B := w6.heap.size) (by first | exact B22 | (go_grown; done) | exact bdrewN B22 _ | exact bdrewN (by go_grown) _) (Nat.le_refl _))).mono ?_
        rintro e w23 ⟨⟨A5, c5, rfl, ri5⟩, hb23⟩
        have L5 := Lib.hid (ri5.at)
        obtain ⟨B23, hz23, q23, s23, t23, x23, y23, z23⟩ := bkeep (w := w6) [w3.heap.size, w9.heap.size, w10.heap.size, w11.heap.size, w13.heap.size] (by first | (simp; done) | (simp; omega)) (by first | (go_grown; done) | exact bdrewN (by go_grown) _) hb23; (try simp at hz23); clear hb23
        clear ri5
        go_wp2_with fail
        refine (TT.out.ta _ (OP.out.below (B := w6.heap.size) (by first | exact B23 | (go_grown; done) | exact bdrewN B23 _ | exact bdrewN (by go_grown) _) (Nat.le_refl _))).mono ?_
        rintro e w24 ⟨⟨A6, c6, rfl, ri6⟩, hb24⟩
        have L5 := Lib.hid (((L5.out).below (B := w23.heap.size) (by first | exact Below.refl _ _ | (go_grown; done) | exact bdrewN (by go_grown) _) (Nat.le_refl _)).below hb24 (Nat.le_refl _))
        have L6 := Lib.hid (ri6.at)
        obtain ⟨B24, hz24, q24, s24, t24, x24, y24, z24⟩ := bkeep (w := w6) [w3.heap.size, w9.heap.size, w10.heap.size, w11.heap.size, w13.heap.size, w23.heap.size] (by first | (simp; done) | (simp; omega)) (by first | (go_grown; done) | exact bdrewN (by go_grown) _) hb24; (try simp at hz24); clear hb24
        clear ri6
        go_wp2_with fail
        refine (likeInts_same _ _ _ _ _ _ (L5.out.below (B := w24.heap.size) (by first | exact Below.refl _ _ | (go_grown; done) | exact bdrewN (by go_grown) _) (Nat.le_refl _)) (L6.out.below (B := w24.heap.size) (by first | exact Below.refl _ _ | (go_grown; done) | exact bdrewN (by go_grown) _) (Nat.le_refl _))).mono ?_
        rintro e w25 ⟨rfl, hb25⟩
        have L5 := Lib.hid (((L5.out).below (B := w24.heap.size) (by first | exact Below.refl _ _ | (go_grown; done) | exact bdrewN (by go_grown) _) (Nat.le_refl _)).below hb25 (Nat.le_refl _))
        have L6 := Lib.hid (((L6.out).below (B := w24.heap.size) (by first | exact Below.refl _ _ | (go_grown; done) | exact bdrewN (by go_grown) _) (Nat.le_refl _)).below hb25 (Nat.le_refl _))
        obtain ⟨B25, hz25, q25, s25, t25, x25, y25, z25⟩ := bkeep (w := w6) [w3.heap.size, w9.heap.size, w10.heap.size, w11.heap.size, w13.heap.size, w23.heap.size, w24.heap.size] (by first | (simp; done) | (simp; omega)) (by first | (go_grown; done) | exact bdrewN (by go_grown) _) hb25; (try simp at hz25); clear hb25
        have g1_ : decide (xu < zl) = false := decide_eq_false (by omega)
        have g2_ : decide (zh < xl) = false := decide_eq_false (by omega)
        by_cases e1_ : xk = kn
        rotate_left
        · have f1_ : (xk == kn) = false := beq_eq_false_iff_ne.2 e1_
          go_wp2
          (first | go_ret2 | go_ret)
          all_goals exact ⟨ret_bool (by first | rfl | (simp; done) | (simp; omega)), B3.out.trans (Below.mono (show Below w3.heap.size w3 _ by exact B6.trans (Below.mono (show Below w6.heap.size w6 _ by first | exact B25 | (go_grown; done) | exact bdrewN B25 _ | exact bdrewN (by go_grown) _ | (go_grown <;> exact bdrewN B25 _)) B6.size)) B3.out.size)⟩
        by_cases e2_ : xl = di
        rotate_left
        · have f1_ : (xk == kn) = true := beq_iff_eq.2 e1_
          have f2_ : (xl == di) = false := beq_eq_false_iff_ne.2 e2_
          go_wp2
          (first | go_ret2 | go_ret)
          all_goals exact ⟨ret_bool (by first | rfl | (simp; done) | (simp; omega)), B3.out.trans (Below.mono (show Below w3.heap.size w3 _ by exact B6.trans (Below.mono (show Below w6.heap.size w6 _ by first | exact B25 | (go_grown; done) | exact bdrewN B25 _ | exact bdrewN (by go_grown) _ | (go_grown <;> exact bdrewN B25 _)) B6.size)) B3.out.size)⟩
        by_cases e3_ : xu = di
        rotate_left
        · have f1_ : (xk == kn) = true := beq_iff_eq.2 e1_
          have f2_ : (xl == di) = true := beq_iff_eq.2 e2_
          have f3_ : (xu == di) = false := beq_eq_false_iff_ne.2 e3_
          go_wp2
          (first | go_ret2 | go_ret)
          all_goals exact ⟨ret_bool (by first | rfl | (simp; done) | (simp; omega)), B3.out.trans (Below.mono (show Below w3.heap.size w3 _ by exact B6.trans (Below.mono (show Below w6.heap.size w6 _ by first | exact B25 | (go_grown; done) | exact bdrewN B25 _ | exact bdrewN (by go_grown) _ | (go_grown <;> exact bdrewN B25 _)) B6.size)) B3.out.size)⟩
        have hv0 := TT.out.me e1_ e2_ e3_
        have hv1 : (v != 0) = true := by simpa using hv0
        have f1_ : (xk == kn) = true := beq_iff_eq.2 e1_
        have f2_ : (xl == di) = true := beq_iff_eq.2 e2_
        have f3_ : (xu == di) = true := beq_iff_eq.2 e3_
        go_wp2
        (first | go_ret2 | go_ret)
        all_goals exact ⟨ret_bool (by first | rfl | (simp; done) | (simp; omega)), B3.out.trans (Below.mono (show Below w3.heap.size w3 _ by exact B6.trans (Below.mono (show Below w6.heap.size w6 _ by first | exact B25 | (go_grown; done) | exact bdrewN B25 _ | exact bdrewN (by go_grown) _ | (go_grown <;> exact bdrewN B25 _)) B6.size)) B3.out.size)⟩
end
end Go.Proofs.YtopggkomkfjbfaaGreat
