/- Numbers with a sign, cut texts, by the reference. -/
import Derived.Test.YtebdokpokbcgjaaDoorRdN
namespace Go.Proofs.YtebdokpokbcgjaaDoor
set_option linter.unusedSimpArgs false
set_option linter.unusedVariables false
open Go.RowKit

theorem ex_drop (l : List UInt8) (a b : Nat) : (⟨l.toArray⟩ : ByteArray).extract a b = ⟨((l.take b).drop a).toArray⟩ := by
  apply ByteArray.ext
  rw [ByteArray.data_extract]
  simp [List.drop_take]

set_option maxRecDepth 20000 in
set_option maxHeartbeats 2000000 in
theorem l01Signed_any (l : List UInt8) (w : World) (hl : l.length ≤ 2000000) :
    Calls Tryd.prog 95 #[strL l] w fun e w' => (∃ n : Int, e = .returned (.tuple #[.int .i64 n, .bool (rdS l).isSome]) ∧ ∀ v, rdS l = some v → n = v) ∧ Below w.heap.size w w' := by
  cases l with
  | nil =>
    have HV := Lib.hid (l01Value_any [] w (by simp))
    go_enter Tryd.func95, Tryd.ntmps95
    go_wp2_with (go_at_call 107; refine HV.out.mono ?_; rintro e_ w1 ⟨⟨n, rfl, -, hn⟩, hb1⟩)
    go_ret2
    exact ⟨⟨(n : Int), rfl, fun v hv => by cases hv⟩, hb1⟩
  | cons c r =>
    have hi0 : ∀ hlt, (⟨(c :: r).toArray⟩ : ByteArray)[0]'hlt = c := fun _ => rfl
    by_cases hc : c = 45
    · have hb0 : ((c.toNat : Int) == 45) = true := by subst hc; rfl
      have hl2 : r.length ≤ 2000000 := by simp at hl; omega
      have HV := Lib.hid (show ∀ (W : World) (s : ByteArray), s = ⟨r.toArray⟩ → Calls Tryd.prog 107 #[.string s] W fun e w' => (∃ n : Nat, e = .returned (.tuple #[.int .i64 (n : Int), .bool (rdV r).isSome]) ∧ n < 1000000000000 ∧ ∀ v, rdV r = some v → n = v) ∧ Below W.heap.size W w' from fun W s hs => by subst hs; exact l01Value_any r W hl2)
      cases hv : rdV r with
      | none =>
        have hS : rdS (c :: r) = none := by rw [rdS, if_pos hc, hv]
        have HS := Lib.hid hS; clear hS hc
        rw [hv] at HV
        go_enter Tryd.func95, Tryd.ntmps95
        go_wp2_with (go_at_call 107; refine (HV.out _ _ (by first | rfl | (rw [ex_drop]; simp; done) | (simp [ex_drop]; done))).mono ?_; rintro e_ w1 ⟨⟨n, rfl, hn0, hn⟩, hb1⟩)
        all_goals go_ret2
        all_goals exact ⟨⟨_, by rw [HS.out]; rfl, fun v hv => by rw [HS.out] at hv; cases hv⟩, hb1⟩
      | some m =>
        rw [hv] at HV
        by_cases hm : 0 < m
        · have hS : rdS (c :: r) = some (-(m : Int)) := by rw [rdS, if_pos hc, hv]; simp only; rw [if_pos hm]
          have HS := Lib.hid hS; clear hS hc
          have hm1 : (0 : Int) < (m : Int) := by omega
          go_enter Tryd.func95, Tryd.ntmps95
          go_wp2_with (go_at_call 107; refine (HV.out _ _ (by first | rfl | (rw [ex_drop]; simp; done) | (simp [ex_drop]; done))).mono ?_; rintro e_ w1 ⟨⟨n, rfl, hn0, hn⟩, hb1⟩; obtain rfl := hn m rfl; have W1 : IntKind.i64.wrap (-(n : Int)) = -(n : Int) := IntWalk.i64_in _ (by omega))
          all_goals go_ret2
          all_goals exact ⟨⟨_, by rw [HS.out]; rfl, fun v hv => by rw [HS.out] at hv; injection hv⟩, hb1⟩
        · have hS : rdS (c :: r) = none := by rw [rdS, if_pos hc, hv]; simp only; rw [if_neg hm]
          have HS := Lib.hid hS; clear hS hc
          have hm1 : ((0 : Int) < (m : Int)) = False := eq_false (by omega)
          have hm2 : (0 < m) = False := eq_false (by omega)
          clear hm
          go_enter Tryd.func95, Tryd.ntmps95
          go_wp2_with (go_at_call 107; refine (HV.out _ _ (by first | rfl | (rw [ex_drop]; simp; done) | (simp [ex_drop]; done))).mono ?_; rintro e_ w1 ⟨⟨n, rfl, hn0, hn⟩, hb1⟩; obtain rfl := hn m rfl; have W1 : IntKind.i64.wrap (-(n : Int)) = -(n : Int) := IntWalk.i64_in _ (by omega))
          all_goals go_ret2
          all_goals exact ⟨⟨_, by rw [HS.out]; rfl, fun v hv => by rw [HS.out] at hv; cases hv⟩, hb1⟩
    · have hb0 : ((c.toNat : Int) == 45) = false := beq_eq_false_iff_ne.2 (fun q => hc (by
        apply UInt8.toNat_inj.1
        show c.toNat = 45
        omega))
      have HV := Lib.hid (l01Value_any (c :: r) w hl)
      cases hv : rdV (c :: r) with
      | none =>
        have hS : rdS (c :: r) = none := by rw [rdS, if_neg hc, hv]
        have HS := Lib.hid hS; clear hS hc
        rw [hv] at HV
        go_enter Tryd.func95, Tryd.ntmps95
        go_wp2_with (go_at_call 107; refine HV.out.mono ?_; rintro e_ w1 ⟨⟨n, rfl, hn0, hn⟩, hb1⟩)
        all_goals go_ret2
        all_goals exact ⟨⟨_, by rw [HS.out]; rfl, fun v hv => by rw [HS.out] at hv; cases hv⟩, hb1⟩
      | some m =>
        have hS : rdS (c :: r) = some (m : Int) := by rw [rdS, if_neg hc, hv]
        have HS := Lib.hid hS; clear hS hc
        rw [hv] at HV
        go_enter Tryd.func95, Tryd.ntmps95
        go_wp2_with (go_at_call 107; refine HV.out.mono ?_; rintro e_ w1 ⟨⟨n, rfl, hn0, hn⟩, hb1⟩; obtain rfl := hn m rfl)
        all_goals go_ret2
        all_goals exact ⟨⟨_, by rw [HS.out]; rfl, fun v hv => by rw [HS.out] at hv; injection hv⟩, hb1⟩
end Go.Proofs.YtebdokpokbcgjaaDoor
