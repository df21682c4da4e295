/- The high waters of a gauge, by the program and by the reference. -/
import Derived.Test.YtjabldjffpjkeaaLev0
import Derived.Test.YtjabldjffpjkeaaTwo
import Derived.IntWalk
import Derived.Deep.Cut
import Derived.BigQuiet
import Derived.Deep.QuietTactic
namespace Go.Proofs.Ytjabldjffpjkeaa
set_option linter.unusedSimpArgs false
set_option linter.unusedVariables false
open Go.RowKit

/-- the high waters among the readings 1 .. k -/
def hwF (ls : List Int) : Nat → List Int
  | 0 => []
  | k + 1 => if spd ls k < spd ls ((k : Int) + 1) ∧ spd ls ((k : Int) + 1 + 1) ≤ spd ls ((k : Int) + 1) then hwF ls k ++ [(k : Int) + 1] else hwF ls k
theorem hwF_len (ls : List Int) : ∀ k, (hwF ls k).length ≤ k := by
  intro k
  induction k with
  | zero => exact Nat.le_refl 0
  | succ k ih =>
    rw [hwF]
    split
    · rw [List.length_append]; simp only [List.length_singleton]; omega
    · omega
theorem hw_yes {ls : List Int} {k : Nat} (h1 : spd ls k < spd ls ((k : Int) + 1)) (h2 : spd ls ((k : Int) + 1 + 1) ≤ spd ls ((k : Int) + 1)) : hwF ls (k + 1) = hwF ls k ++ [(k : Int) + 1] := by rw [hwF, if_pos ⟨h1, h2⟩]
theorem hw_no1 {ls : List Int} {k : Nat} (h1 : ¬ spd ls k < spd ls ((k : Int) + 1)) : hwF ls (k + 1) = hwF ls k := by rw [hwF, if_neg (fun h => h1 h.1)]
theorem hw_no2 {ls : List Int} {k : Nat} (h2 : ¬ spd ls ((k : Int) + 1 + 1) ≤ spd ls ((k : Int) + 1)) : hwF ls (k + 1) = hwF ls k := by rw [hwF, if_neg (fun h => h2 h.2)]
theorem hw_mem {ls : List Int} : ∀ {n : Nat} {x : Int}, x ∈ hwF ls n → ∃ k : Nat, k < n ∧ x = (k : Int) + 1 ∧ spd ls k < spd ls ((k : Int) + 1) ∧ spd ls ((k : Int) + 1 + 1) ≤ spd ls ((k : Int) + 1) := by
  intro n
  induction n with
  | zero => intro x h; simp [hwF] at h
  | succ n ih =>
    intro x h
    rw [hwF] at h
    split at h
    · rename_i hc
      rcases List.mem_append.1 h with h | h
      · obtain ⟨k, h1, h2⟩ := ih h; exact ⟨k, by omega, h2⟩
      · simp at h; exact ⟨n, by omega, h, hc⟩
    · obtain ⟨k, h1, h2⟩ := ih h; exact ⟨k, by omega, h2⟩
@[irreducible] def hwL (ts ls : List Int) : List Int := if gauB ts ls then hwF ls (ls.length - 2) else []
@[irreducible] def hwE (ts ls : List Int) : Int := if gauB ts ls then 0 else 1
theorem hw_good {ts ls : List Int} (h : gauB ts ls = true) : hwL ts ls = hwF ls (ls.length - 2) ∧ hwE ts ls = 0 := by unfold hwL hwE; simp [h]
theorem hw_bad {ts ls : List Int} (h : gauB ts ls = false) : hwL ts ls = [] ∧ hwE ts ls = 1 := by unfold hwL hwE; simp [h]
theorem hwL_len (ts ls : List Int) : (hwL ts ls).length ≤ 40 := by
  cases h : gauB ts ls with
  | false => rw [(hw_bad h).1]; simp
  | true =>
    rw [(hw_good h).1]
    have := hwF_len ls (ls.length - 2)
    have p := gauOk_of h
    have := p.l2; have := p.l3
    omega

set_option maxHeartbeats 4000000 in
theorem implHigh_any (A1 A2 : Option Addr) (c1 c2 : Nat) (ts ls : List Int) (w : World) (h : ProfAt w A1 c1 A2 c2 ts ls) :
    Calls Try.prog 18 #[profV A1 ts.length c1 A2 ls.length c2] w fun e w' => (∃ A' c', e = .returned (.tuple #[.slice A' (hwL ts ls).length c', .int .i64 (hwE ts ls)]) ∧ ResI w' w.heap.size w'.heap.size A' c' (hwL ts ls)) ∧ Below w.heap.size w w' := by
  by_cases hp : gauB ts ls = true
  · have p := gauOk_of hp
    have l1 := p.l1; have l2 := p.l2; have l3 := p.l3; have l4 := p.l4
    have hg := hw_good hp
    obtain ⟨b2, o2, rfl, hb2, q2⟩ := h.2.spd (by omega)
    have H := Lib.hid h; have HG := Lib.hid hg; have Q2 := Lib.hid q2; clear h hg p q2
    go_enter Try.func18, Try.ntmps18
    go_upto_region 3 with (go_at_call 24; refine (implIsGauge_any _ _ _ _ _ _ _ ⟨(H.out.1.below (B := w.heap.size) (by first | exact Below.refl _ _ | (go_grown; done) | exact bdrewN (by go_grown) _) (Nat.le_refl _)), (H.out.2.below (B := w.heap.size) (by first | exact Below.refl _ _ | (go_grown; done) | exact bdrewN (by go_grown) _) (Nat.le_refl _))⟩).mono ?_; rintro e w1 ⟨rfl, hb1⟩; obtain ⟨B1, hz1, q1, s1, t1, x1, y1, z1⟩ := bkeep (w := w) [w.heap.size] (by first | (simp; done) | (simp; omega)) (by first | (go_grown; done) | exact bdrewN (by go_grown) _) hb1; (try simp at hz1); clear hb1)
    refine genS (S := fun w' => Below w.heap.size w w' ∧ w.heap.size < w'.heap.size ∧ w'.cell? ⟨w.heap.size, 0, none⟩ = some (.slice A1 ts.length c1) ∧ w'.cell? ⟨w.heap.size, 1, none⟩ = some (.slice (some ⟨b2, o2, none⟩) ls.length c2)) ⟨(by first | with_reducible exact B1 | (go_grown; done) | with_reducible exact bdrewN B1 _ | (go_grown <;> first | with_reducible exact bdrewN B1 _ | with_reducible exact B1)), by first | omega | (simp; done) | (simp; omega), by simp [*, go_sem], by simp [*, go_sem]⟩ ?_
    clear q1 s1 t1 x1 y1
    rintro w2 ⟨B2, lt2, r0, r1⟩
    have lb2 : b2 < w2.heap.size := by omega
    have BB := Lib.hid B2; clear B2
    go_wp2_with fail
    go_loopw [4, 5] (fun o i wr => Below w2.heap.size w2 wr ∧ ∃ k : Nat, i = .int .i64 ((k + 1 : Nat) : Int) ∧ k ≤ ls.length - 2 ∧ OwnI wr w2.heap.size o (hwF ls k)) (fun _ i _ => ls.length - (intOf i).toNat)
    case atStart => exact ⟨by first | exact Below.refl _ _ | (go_grown; done), 0, rfl, by omega, OwnI.none_ _ _⟩
    case round =>
      obtain ⟨Br, k, rfl, hk, A', c', rfl, hc', hown⟩ := hrel
      have HO := Lib.hid hown; clear hown
      have hln := hwF_len ls k
      have sr : w2.heap.size ≤ wr.heap.size := Br.size
      have g0 := (bAt Br (b := w.heap.size) (o := 0) lt2).trans r0
      have g1 := (bAt Br (b := w.heap.size) (o := 1) lt2).trans r1
      have B0 := BB.out.trans (Br.mono (by omega))
      have kk : ((k + 1 : Nat) : Int) = (k : Int) + 1 := by omega
      have kk2 : ((k + 2 : Nat) : Int) = (k : Int) + 1 + 1 := by omega
      by_cases hlt : k + 2 < ls.length
      · have d0 := (bAt B0 (b := b2) (o := o2 + k) hb2).trans (Q2.out k (by omega))
        have d1 := (bAt B0 (b := b2) (o := o2 + (k + 1)) hb2).trans (Q2.out (k + 1) (by omega))
        have d2 := (bAt B0 (b := b2) (o := o2 + (k + 2)) hb2).trans (Q2.out (k + 2) (by omega))
        rw [kk] at d1
        rw [kk2] at d2
        have i0 : (0 : Int) ≤ k := by omega
        have i1 : (k : Int) < ls.length := by omega
        have i2 : (0 : Int) ≤ (k : Int) + 1 := by omega
        have i3 : (k : Int) + 1 < ls.length := by omega
        have i4 : (0 : Int) ≤ (k : Int) + 1 + 1 := by omega
        have i5 : (k : Int) + 1 + 1 < ls.length := by omega
        have i6 : ((k : Int) + 1).toNat = k + 1 := by omega
        have i7 : ((k : Int) + 1 + 1).toNat = k + 2 := by omega
        have i8 : (k : Int) + 1 - 1 = k := by omega
        have hnext : ls.length - (k + 1 + 1) < ls.length - (k + 1) := by omega
        have hbr := Lib.hid Br; clear kk kk2 Br B0
        obtain ⟨x0, hx0⟩ : ∃ x, spd ls k = x := ⟨_, rfl⟩
        obtain ⟨x1, hx1⟩ : ∃ x, spd ls ((k : Int) + 1) = x := ⟨_, rfl⟩
        obtain ⟨x2, hx2⟩ : ∃ x, spd ls ((k : Int) + 1 + 1) = x := ⟨_, rfl⟩
        rw [hx0] at d0; rw [hx1] at d1; rw [hx2] at d2
        have HX0 := Lib.hid hx0; have HX1 := Lib.hid hx1; have HX2 := Lib.hid hx2; clear hx0 hx1 hx2
        by_cases c1_ : x0 < x1
        · have e1 : decide (x0 < x1) = true := decide_eq_true c1_
          by_cases c2_ : x2 ≤ x1
          · have HK := Lib.hid (hw_yes (ls := ls) (k := k) (by rw [HX0.out, HX1.out]; exact c1_) (by rw [HX2.out, HX1.out]; exact c2_))
            have e2 : decide (x2 ≤ x1) = true := decide_eq_true c2_
            go_wp2_with fail
            have W0 : IntKind.i64.wrap ((k : Int) + 1 - 1) = (k : Int) := by rw [i8]; exact IntWalk.i64_in _ (by omega)
            have W1 : IntKind.i64.wrap ((k : Int) + 1 + 1) = (k : Int) + 1 + 1 := IntWalk.i64_in _ (by omega)
            go_quiet (fail)
            clear W0 W1
            go_wp2_with (at_builtin; refine app1 rfl _ _ 26 rfl w2.heap.size 2 (.int .i64 0) 8 Try.underlying26 infoInt2 rfl (.int .i64 ((k : Int) + 1)) rfl _ _ _ rfl _ rfl (owns_below (B := wr.heap.size) HO.out ?_ (Nat.le_refl _)) ?_ ?_ ?_ ?_ ?_; (focus (first | (go_grown; done) | (refine bdrewN ?_ _; go_grown; done) | exact Below.alloc (bdrewN (Below.refl _ _) _) (Nat.le_refl _) _)); (focus (first | (simp; done) | exact (World.cell?_alloc_new (w := _) _ _ _).trans rfl)); (focus (unfold maxLen; omega)); (focus omega); (focus (first | omega | (simp; omega))); intro v6 w6 hown6 hb6)
            go_roundw
            case rel => exact ⟨Below.trans (by have hb_ := hbr.out; first | (go_grown; done) | (refine bdrewN ?_ _; go_grown; done) | (go_grown <;> (refine bdrewN ?_ _; go_grown; done))) hb6, k + 1, by go_num, by omega, OwnI.next HK.out hown6⟩
            case measure => simp [intOf]; omega
          · have HK := Lib.hid (hw_no2 (ls := ls) (k := k) (by rw [HX2.out, HX1.out]; exact c2_))
            have e2 : decide (x2 ≤ x1) = false := decide_eq_false c2_
            go_wp2_with fail
            have W0 : IntKind.i64.wrap ((k : Int) + 1 - 1) = (k : Int) := by rw [i8]; exact IntWalk.i64_in _ (by omega)
            have W1 : IntKind.i64.wrap ((k : Int) + 1 + 1) = (k : Int) + 1 + 1 := IntWalk.i64_in _ (by omega)
            go_quiet (fail)
            clear W0 W1
            go_wp2
            have OW : OwnI (wr.drewN nq) w2.heap.size (.slice A' (hwF ls k).length c') (hwF ls k) := OwnI.below ⟨_, _, rfl, hc', HO.out⟩ (bdrewN (Below.refl wr.heap.size wr) nq) (Nat.le_refl _)
            go_roundw
            case rel => exact ⟨bdrewN hbr.out _, k + 1, by go_num, by omega, by rw [HK.out]; exact OW⟩
            case measure => simp [intOf]; omega
        · have HK := Lib.hid (hw_no1 (ls := ls) (k := k) (by rw [HX0.out, HX1.out]; exact c1_))
          have e1 : decide (x0 < x1) = false := decide_eq_false c1_
          go_wp2_with fail
          have W0 : IntKind.i64.wrap ((k : Int) + 1 - 1) = (k : Int) := by rw [i8]; exact IntWalk.i64_in _ (by omega)
          have W1 : IntKind.i64.wrap ((k : Int) + 1 + 1) = (k : Int) + 1 + 1 := IntWalk.i64_in _ (by omega)
          go_quiet (fail)
          clear W0 W1
          go_wp2
          have OW : OwnI (wr.drewN nq) w2.heap.size (.slice A' (hwF ls k).length c') (hwF ls k) := OwnI.below ⟨_, _, rfl, hc', HO.out⟩ (bdrewN (Below.refl wr.heap.size wr) nq) (Nat.le_refl _)
          go_roundw
          case rel => exact ⟨bdrewN hbr.out _, k + 1, by go_num, by omega, by rw [HK.out]; exact OW⟩
          case measure => simp [intOf]; omega
      · have HL : Hid (hwL ts ls = hwF ls k) := Lib.hid (by rw [HG.out.1, show ls.length - 2 = k by omega])
        have hbr := Lib.hid Br; clear kk kk2 Br
        go_wp2
        go_ret2
        exact ⟨⟨A', c', by rw [HL.out, HG.out.2]; rfl, by rw [HL.out]; exact (OwnI.res ⟨_, _, rfl, hc', HO.out⟩).mono (by omega) (Nat.le_refl _)⟩, B0⟩
  · have hp' : gauB ts ls = false := by simpa using hp
    have H := Lib.hid h; have HG := Lib.hid (hw_bad hp'); clear h hp
    go_enter Try.func18, Try.ntmps18
    go_wp2_with (go_at_call 24; refine (implIsGauge_any _ _ _ _ _ _ _ ⟨(H.out.1.below (B := w.heap.size) (by first | exact Below.refl _ _ | (go_grown; done) | exact bdrewN (by go_grown) _) (Nat.le_refl _)), (H.out.2.below (B := w.heap.size) (by first | exact Below.refl _ _ | (go_grown; done) | exact bdrewN (by go_grown) _) (Nat.le_refl _))⟩).mono ?_; rintro e w1 ⟨rfl, hb1⟩; obtain ⟨B1, hz1, q1, s1, t1, x1, y1, z1⟩ := bkeep (w := w) [w.heap.size] (by first | (simp; done) | (simp; omega)) (by first | (go_grown; done) | exact bdrewN (by go_grown) _) hb1; (try simp at hz1); clear hb1)
    go_ret2
    exact ⟨⟨none, 0, by rw [HG.out.1, HG.out.2]; rfl, by rw [HG.out.1]; exact ResI.nil _ _ _ _ _ (by omega)⟩, (by first | with_reducible exact B1 | (go_grown; done) | with_reducible exact bdrewN B1 _ | (go_grown <;> first | with_reducible exact bdrewN B1 _ | with_reducible exact B1))⟩
set_option maxHeartbeats 4000000 in
theorem specHigh_any (A1 A2 : Option Addr) (c1 c2 : Nat) (ts ls : List Int) (w : World) (h : ProfAt w A1 c1 A2 c2 ts ls) :
    Calls Try.prog 19 #[profV A1 ts.length c1 A2 ls.length c2] w fun e w' => (∃ A' c', e = .returned (.tuple #[.slice A' (hwL ts ls).length c', .int .i64 (hwE ts ls)]) ∧ ResI w' w.heap.size w'.heap.size A' c' (hwL ts ls)) ∧ Below w.heap.size w w' := by
  by_cases hp : gauB ts ls = true
  · have p := gauOk_of hp
    have l1 := p.l1; have l2 := p.l2; have l3 := p.l3; have l4 := p.l4
    have hg := hw_good hp
    obtain ⟨b2, o2, rfl, hb2, q2⟩ := h.2.spd (by omega)
    have H := Lib.hid h; have HG := Lib.hid hg; have Q2 := Lib.hid q2; clear h hg p q2
    go_enter Try.func19, Try.ntmps19
    go_upto_region 3 with (go_at_call 49; refine (specIsGauge_any _ _ _ _ _ _ _ ⟨(H.out.1.below (B := w.heap.size) (by first | exact Below.refl _ _ | (go_grown; done) | exact bdrewN (by go_grown) _) (Nat.le_refl _)), (H.out.2.below (B := w.heap.size) (by first | exact Below.refl _ _ | (go_grown; done) | exact bdrewN (by go_grown) _) (Nat.le_refl _))⟩).mono ?_; rintro e w1 ⟨rfl, hb1⟩; obtain ⟨B1, hz1, q1, s1, t1, x1, y1, z1⟩ := bkeep (w := w) [w.heap.size] (by first | (simp; done) | (simp; omega)) (by first | (go_grown; done) | exact bdrewN (by go_grown) _) hb1; (try simp at hz1); clear hb1)
    refine genS (S := fun w' => Below w.heap.size w w' ∧ w.heap.size < w'.heap.size ∧ w'.cell? ⟨w.heap.size, 0, none⟩ = some (.slice A1 ts.length c1) ∧ w'.cell? ⟨w.heap.size, 1, none⟩ = some (.slice (some ⟨b2, o2, none⟩) ls.length c2)) ⟨(by first | with_reducible exact B1 | (go_grown; done) | with_reducible exact bdrewN B1 _ | (go_grown <;> first | with_reducible exact bdrewN B1 _ | with_reducible exact B1)), by first | omega | (simp; done) | (simp; omega), by simp [*, go_sem], by simp [*, go_sem]⟩ ?_
    clear q1 s1 t1 x1 y1
    rintro w2 ⟨B2, lt2, r0, r1⟩
    have lb2 : b2 < w2.heap.size := by omega
    have BB := Lib.hid B2; clear B2
    go_wp2_with fail
    go_loopw [4, 5] (fun o i wr => Below w2.heap.size w2 wr ∧ ∃ k : Nat, i = .int .i64 ((k + 1 : Nat) : Int) ∧ k ≤ ls.length - 2 ∧ OwnI wr w2.heap.size o (hwF ls k)) (fun _ i _ => ls.length - (intOf i).toNat)
    case atStart => exact ⟨by first | exact Below.refl _ _ | (go_grown; done), 0, rfl, by omega, OwnI.zero (Nat.le_refl _)⟩
    case round =>
      obtain ⟨Br, k, rfl, hk, A', c', rfl, hc', hown⟩ := hrel
      have HO := Lib.hid hown; clear hown
      have hln := hwF_len ls k
      have sr : w2.heap.size ≤ wr.heap.size := Br.size
      have g0 := (bAt Br (b := w.heap.size) (o := 0) lt2).trans r0
      have g1 := (bAt Br (b := w.heap.size) (o := 1) lt2).trans r1
      have B0 := BB.out.trans (Br.mono (by omega))
      have kk : ((k + 1 : Nat) : Int) = (k : Int) + 1 := by omega
      have kk2 : ((k + 2 : Nat) : Int) = (k : Int) + 1 + 1 := by omega
      by_cases hlt : k + 2 < ls.length
      · have d0 := (bAt B0 (b := b2) (o := o2 + k) hb2).trans (Q2.out k (by omega))
        have d1 := (bAt B0 (b := b2) (o := o2 + (k + 1)) hb2).trans (Q2.out (k + 1) (by omega))
        have d2 := (bAt B0 (b := b2) (o := o2 + (k + 2)) hb2).trans (Q2.out (k + 2) (by omega))
        rw [kk] at d1
        rw [kk2] at d2
        have i0 : (0 : Int) ≤ k := by omega
        have i1 : (k : Int) < ls.length := by omega
        have i2 : (0 : Int) ≤ (k : Int) + 1 := by omega
        have i3 : (k : Int) + 1 < ls.length := by omega
        have i4 : (0 : Int) ≤ (k : Int) + 1 + 1 := by omega
        have i5 : (k : Int) + 1 + 1 < ls.length := by omega
        have i6 : ((k : Int) + 1).toNat = k + 1 := by omega
        have i7 : ((k : Int) + 1 + 1).toNat = k + 2 := by omega
        have i8 : (k : Int) + 1 - 1 = k := by omega
        have hnext : ls.length - (k + 1 + 1) < ls.length - (k + 1) := by omega
        have hbr := Lib.hid Br; clear kk kk2 Br B0
        obtain ⟨x0, hx0⟩ : ∃ x, spd ls k = x := ⟨_, rfl⟩
        obtain ⟨x1, hx1⟩ : ∃ x, spd ls ((k : Int) + 1) = x := ⟨_, rfl⟩
        obtain ⟨x2, hx2⟩ : ∃ x, spd ls ((k : Int) + 1 + 1) = x := ⟨_, rfl⟩
        rw [hx0] at d0; rw [hx1] at d1; rw [hx2] at d2
        have HX0 := Lib.hid hx0; have HX1 := Lib.hid hx1; have HX2 := Lib.hid hx2; clear hx0 hx1 hx2
        by_cases c1_ : x0 < x1
        · have e1 : decide (x0 < x1) = true := decide_eq_true c1_
          by_cases c2_ : x2 ≤ x1
          · have HK := Lib.hid (hw_yes (ls := ls) (k := k) (by rw [HX0.out, HX1.out]; exact c1_) (by rw [HX2.out, HX1.out]; exact c2_))
            have e2 : decide (x2 ≤ x1) = true := decide_eq_true c2_
            go_wp2_with fail
            have W0 : IntKind.i64.wrap ((k : Int) + 1 - 1) = (k : Int) := by rw [i8]; exact IntWalk.i64_in _ (by omega)
            have W1 : IntKind.i64.wrap ((k : Int) + 1 + 1) = (k : Int) + 1 + 1 := IntWalk.i64_in _ (by omega)
            go_quiet (fail)
            clear W0 W1
            go_wp2_with (at_builtin; refine app1 rfl _ _ 26 rfl w2.heap.size 2 (.int .i64 0) 8 Try.underlying26 infoInt2 rfl (.int .i64 ((k : Int) + 1)) rfl _ _ _ rfl _ rfl (owns_below (B := wr.heap.size) HO.out ?_ (Nat.le_refl _)) ?_ ?_ ?_ ?_ ?_; (focus (first | (go_grown; done) | (refine bdrewN ?_ _; go_grown; done) | exact Below.alloc (bdrewN (Below.refl _ _) _) (Nat.le_refl _) _)); (focus (first | (simp; done) | exact (World.cell?_alloc_new (w := _) _ _ _).trans rfl)); (focus (unfold maxLen; omega)); (focus omega); (focus (first | omega | (simp; omega))); intro v6 w6 hown6 hb6)
            go_roundw
            case rel => exact ⟨Below.trans (by have hb_ := hbr.out; first | (go_grown; done) | (refine bdrewN ?_ _; go_grown; done) | (go_grown <;> (refine bdrewN ?_ _; go_grown; done))) hb6, k + 1, by go_num, by omega, OwnI.next HK.out hown6⟩
            case measure => simp [intOf]; omega
          · have HK := Lib.hid (hw_no2 (ls := ls) (k := k) (by rw [HX2.out, HX1.out]; exact c2_))
            have e2 : decide (x2 ≤ x1) = false := decide_eq_false c2_
            go_wp2_with fail
            have W0 : IntKind.i64.wrap ((k : Int) + 1 - 1) = (k : Int) := by rw [i8]; exact IntWalk.i64_in _ (by omega)
            have W1 : IntKind.i64.wrap ((k : Int) + 1 + 1) = (k : Int) + 1 + 1 := IntWalk.i64_in _ (by omega)
            go_quiet (fail)
            clear W0 W1
            go_wp2
            have OW : OwnI (wr.drewN nq) w2.heap.size (.slice A' (hwF ls k).length c') (hwF ls k) := OwnI.below ⟨_, _, rfl, hc', HO.out⟩ (bdrewN (Below.refl wr.heap.size wr) nq) (Nat.le_refl _)
            go_roundw
            case rel => exact ⟨bdrewN hbr.out _, k + 1, by go_num, by omega, by rw [HK.out]; exact OW⟩
            case measure => simp [intOf]; omega
        · have HK := Lib.hid (hw_no1 (ls := ls) (k := k) (by rw [HX0.out, HX1.out]; exact c1_))
          have e1 : decide (x0 < x1) = false := decide_eq_false c1_
          go_wp2_with fail
          have W0 : IntKind.i64.wrap ((k : Int) + 1 - 1) = (k : Int) := by rw [i8]; exact IntWalk.i64_in _ (by omega)
          have W1 : IntKind.i64.wrap ((k : Int) + 1 + 1) = (k : Int) + 1 + 1 := IntWalk.i64_in _ (by omega)
          go_quiet (fail)
          clear W0 W1
          go_wp2
          have OW : OwnI (wr.drewN nq) w2.heap.size (.slice A' (hwF ls k).length c') (hwF ls k) := OwnI.below ⟨_, _, rfl, hc', HO.out⟩ (bdrewN (Below.refl wr.heap.size wr) nq) (Nat.le_refl _)
          go_roundw
          case rel => exact ⟨bdrewN hbr.out _, k + 1, by go_num, by omega, by rw [HK.out]; exact OW⟩
          case measure => simp [intOf]; omega
      · have HL : Hid (hwL ts ls = hwF ls k) := Lib.hid (by rw [HG.out.1, show ls.length - 2 = k by omega])
        have hbr := Lib.hid Br; clear kk kk2 Br
        go_wp2
        go_ret2
        exact ⟨⟨A', c', by rw [HL.out, HG.out.2]; rfl, by rw [HL.out]; exact (OwnI.res ⟨_, _, rfl, hc', HO.out⟩).mono (by omega) (Nat.le_refl _)⟩, B0⟩
  · have hp' : gauB ts ls = false := by simpa using hp
    have H := Lib.hid h; have HG := Lib.hid (hw_bad hp'); clear h hp
    go_enter Try.func19, Try.ntmps19
    go_wp2_with (go_at_call 49; refine (specIsGauge_any _ _ _ _ _ _ _ ⟨(H.out.1.below (B := w.heap.size) (by first | exact Below.refl _ _ | (go_grown; done) | exact bdrewN (by go_grown) _) (Nat.le_refl _)), (H.out.2.below (B := w.heap.size) (by first | exact Below.refl _ _ | (go_grown; done) | exact bdrewN (by go_grown) _) (Nat.le_refl _))⟩).mono ?_; rintro e w1 ⟨rfl, hb1⟩; obtain ⟨B1, hz1, q1, s1, t1, x1, y1, z1⟩ := bkeep (w := w) [w.heap.size] (by first | (simp; done) | (simp; omega)) (by first | (go_grown; done) | exact bdrewN (by go_grown) _) hb1; (try simp at hz1); clear hb1)
    go_ret2
    exact ⟨⟨none, 0, by rw [HG.out.1, HG.out.2]; rfl, by rw [HG.out.1]; exact ResI.nil _ _ _ _ _ (by omega)⟩, (by first | with_reducible exact B1 | (go_grown; done) | with_reducible exact bdrewN B1 _ | (go_grown <;> first | with_reducible exact bdrewN B1 _ | with_reducible exact B1))⟩
end Go.Proofs.Ytjabldjffpjkeaa
