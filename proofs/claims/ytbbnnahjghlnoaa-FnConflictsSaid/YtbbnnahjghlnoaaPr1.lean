/- Lists of pairs in the laws: equal, alike, marked, held. -/
import Derived.Test.YtbbnnahjghlnoaaPr0
import Derived.Test.YtbbnnahjghlnoaaLike
import Derived.Deep.RegionHeld3
import Derived.IntWalk
namespace Go.Proofs.Ytbbnnahjghlnoaa
set_option linter.unusedSimpArgs false
set_option linter.unusedVariables false
open Go.RowKit

/-- the pairs that marking leaves: behind i of them -/
def mkT (k0 : Int) (ps : List (Int × Int)) : Nat → List (Int × Int)
  | 0 => ps
  | i + 1 => (mkT k0 ps i).set i (k0 + 2 * i, k0 + 2 * i + 1)
theorem mkT_len (k0 : Int) (ps : List (Int × Int)) : ∀ i, (mkT k0 ps i).length = ps.length := by
  intro i
  induction i with
  | zero => rfl
  | succ i ih => rw [mkT, List.length_set, ih]
theorem mkT_get (k0 : Int) (ps : List (Int × Int)) : ∀ (i j : Nat), j < i → j < ps.length → (mkT k0 ps i)[j]? = some (k0 + 2 * j, k0 + 2 * j + 1) := by
  intro i
  induction i with
  | zero => intro j h; omega
  | succ i ih =>
    intro j h hl
    rw [mkT]
    by_cases e : j = i
    · subst e; exact List.getElem?_set_self (by rw [mkT_len]; exact hl)
    · rw [List.getElem?_set_ne (fun q => e q.symm)]; exact ih j (by omega) hl
def mkP (k0 : Int) (n : Nat) : List (Int × Int) := (List.range n).map fun (i : Nat) => (k0 + 2 * (i : Int), k0 + 2 * (i : Int) + 1)
theorem mkP_len (k0 : Int) (n : Nat) : (mkP k0 n).length = n := by rw [mkP, List.length_map, List.length_range]
theorem mkP_get {k0 : Int} {n i : Nat} (h : i < n) : (mkP k0 n)[i]? = some (k0 + 2 * i, k0 + 2 * i + 1) := by rw [mkP, List.getElem?_map, List.getElem?_range h]; rfl
theorem mkT_all (k0 : Int) (ps : List (Int × Int)) : mkT k0 ps ps.length = mkP k0 ps.length := by
  apply List.ext_getElem?
  intro j
  rcases Nat.lt_or_ge j ps.length with h | h
  · rw [mkT_get k0 ps _ j h h, mkP_get h]
  · rw [List.getElem?_eq_none (by rw [mkT_len]; exact h), List.getElem?_eq_none (by rw [mkP_len]; exact h)]
theorem ResPP.split {w : World} {lo hi c : Nat} {A : Option Addr} {ps : List (Int × Int)} (h : ResPP w lo hi A c ps) (hne : 0 < ps.length) :
    ∃ bs b0 off, A = some ⟨b0, off, none⟩ ∧ lo ≤ b0 ∧ b0 < hi ∧ ResK w b0 (b0 + 1) A c 1 (bs.map prE) ∧ InP w lo hi bs ps ∧ ∀ b ∈ bs, b ≠ b0 := by
  obtain ⟨bs, h1, h2, h3⟩ := h
  rcases h1.2.2 with e | ⟨b, off, e, q1, q2, q3, q4, q5⟩
  · have := congrArg List.length e
    simp only [List.length_map, List.length_nil] at this
    rw [h2.len] at this; omega
  · subst e
    exact ⟨bs, b, off, rfl, q1, q2, ⟨h1.1, h1.2.1, .inr ⟨b, off, rfl, Nat.le_refl _, by omega, q3, q4, q5⟩⟩, h2, fun g hg e => h3 g hg off (by rw [e])⟩
set_option maxHeartbeats 1000000 in
theorem eqInt64SS_same (A A' : Option Addr) (c c' lo hi lo' hi' : Nat) (ps : List (Int × Int)) (w : World) (hx : ResPP w lo hi A c ps) (hx' : ResPP w lo' hi' A' c' ps) :
    Calls Try.prog 10 #[.slice A ps.length c, .slice A' ps.length c'] w fun e w' => e = .returned (.bool true) ∧ Below w.heap.size w w' := by
  have hn := Nat.le_trans hx.bd.1 hx.bd.2
  have HX := Lib.hid hx; clear hx
  have HX' := Lib.hid hx'; clear hx'
  go_enter Try.func10, Try.ntmps10
  go_wp2
  go_loopw [5] (fun i wr => Below w.heap.size w wr ∧ ∃ k : Nat, k ≤ ps.length ∧ i = .int .i64 k) (fun i _ => ps.length - (intOf i).toNat)
  case atStart => exact ⟨Below.refl _ _, 0, by omega, rfl⟩
  case round =>
    obtain ⟨Br, k, hk, rfl⟩ := hrel
    have tr := bold Br
    by_cases hlt : k < ps.length
    · obtain ⟨b, off, g, p, rfl, hb, hp, hg, cs, c0, c1, hi_⟩ := HX.out.at_ hlt
      obtain ⟨b', off', g', p', rfl, hb', hp', hg', cs', c0', c1', hi_'⟩ := HX'.out.at_ hlt
      rw [hp] at hp'; injection hp' with hp'; subst hp'
      have HE := Lib.hid (show ∀ W, Below w.heap.size w W → Calls Try.prog 28 #[.slice (some ⟨g, 0, none⟩) 2 2, .slice (some ⟨g', 0, none⟩) 2 2] W fun e w' => e = .returned (.bool true) ∧ Below W.heap.size W w' from fun W hW => eqInt64S_same _ _ 2 2 [p.1, p.2] W (hi_.below hW (Nat.le_refl _)) (hi_'.below hW (Nat.le_refl _)))
      clear hi_ hi_' c0 c1 c0' c1' hp
      have HB := Lib.hid Br; clear Br
      have hk0 : (0 : Int) ≤ (k : Int) := Int.natCast_nonneg _
      have hk1 : (k : Int) < (ps.length : Int) := by omega
      have lb0 : b < wr.heap.size := by have := HB.out.size; omega
      have lb1 : b' < wr.heap.size := by have := HB.out.size; omega
      have d0 := (tr b (off + k) hb).trans cs
      have d1 := (tr b' (off' + k) hb').trans cs'
      go_wp2_with fail
      go_region_held3 (fun w' => w'.cell? ⟨b, off + k, none⟩ = some (.slice (some ⟨g, 0, none⟩) 2 2) ∧ w'.cell? ⟨b', off' + k, none⟩ = some (.slice (some ⟨g', 0, none⟩) 2 2)) (first | (go_keep; done) | (simp [*, go_sem]; done))
        (first | (go_at_call 28; refine (HE.out _ (HB.out.trans (show Below w.heap.size wr _ from Below.mono (B := wr.heap.size) (by first | exact Below.refl _ _ | exact bdrewN (Below.refl _ _) _ | (go_grown; done)) HB.out.size))).mono ?_; rintro e w20 ⟨rfl, hb20⟩; have HB20 := Lib.hid ((HB.out.trans (show Below w.heap.size wr _ from Below.mono (B := wr.heap.size) (by first | exact Below.refl _ _ | exact bdrewN (Below.refl _ _) _ | (go_grown; done)) HB.out.size)).trans (hb20.mono (by have hs_ := HB.out.size; first | omega | (simp; done) | (simp; omega)))); have hca := (hb20.cell (p := ⟨b, off + k, none⟩) (by first | exact lb0 | (simp; done) | (simp; omega))).trans (by first | exact d0 | simpa using d0); have hcb := (hb20.cell (p := ⟨b', off' + k, none⟩) (by first | exact lb1 | (simp; done) | (simp; omega))).trans (by first | exact d1 | simpa using d1); clear hb20))
      all_goals go_wp2
      all_goals go_roundw
      all_goals first | exact ⟨HB20.out, k + 1, by omega, by go_num⟩ | (simp [intOf]; omega)
    · go_wp2
      go_ret
      exact ⟨rfl, Br⟩
set_option maxHeartbeats 1000000 in
theorem likeLists9_same (A A' : Option Addr) (c c' lo hi lo' hi' : Nat) (ps : List (Int × Int)) (w : World) (hx : ResPP w lo hi A c ps) (hx' : ResPP w lo' hi' A' c' ps) :
    Calls Try.prog 23 #[.slice A ps.length c, .slice A' ps.length c'] w fun e w' => e = .returned (.bool true) ∧ Below w.heap.size w w' := by
  have hn := Nat.le_trans hx.bd.1 hx.bd.2
  have HX := Lib.hid hx; clear hx
  have HX' := Lib.hid hx'; clear hx'
  go_enter Try.func23, Try.ntmps23
  go_wp2
  go_loopw [5] (fun i wr => Below w.heap.size w wr ∧ ∃ k : Nat, k ≤ ps.length ∧ i = .int .i64 k) (fun i _ => ps.length - (intOf i).toNat)
  case atStart => exact ⟨Below.refl _ _, 0, by omega, rfl⟩
  case round =>
    obtain ⟨Br, k, hk, rfl⟩ := hrel
    have tr := bold Br
    by_cases hlt : k < ps.length
    · obtain ⟨b, off, g, p, rfl, hb, hp, hg, cs, c0, c1, hi_⟩ := HX.out.at_ hlt
      obtain ⟨b', off', g', p', rfl, hb', hp', hg', cs', c0', c1', hi_'⟩ := HX'.out.at_ hlt
      rw [hp] at hp'; injection hp' with hp'; subst hp'
      have HE := Lib.hid (show ∀ W, Below w.heap.size w W → Calls Try.prog 24 #[.slice (some ⟨g, 0, none⟩) 2 2, .slice (some ⟨g', 0, none⟩) 2 2] W fun e w' => e = .returned (.bool true) ∧ Below W.heap.size W w' from fun W hW => likeInts_same _ _ 2 2 [p.1, p.2] W (hi_.below hW (Nat.le_refl _)) (hi_'.below hW (Nat.le_refl _)))
      clear hi_ hi_' c0 c1 c0' c1' hp
      have HB := Lib.hid Br; clear Br
      have hk0 : (0 : Int) ≤ (k : Int) := Int.natCast_nonneg _
      have hk1 : (k : Int) < (ps.length : Int) := by omega
      have lb0 : b < wr.heap.size := by have := HB.out.size; omega
      have lb1 : b' < wr.heap.size := by have := HB.out.size; omega
      have d0 := (tr b (off + k) hb).trans cs
      have d1 := (tr b' (off' + k) hb').trans cs'
      go_wp2_with fail
      go_region_held3 (fun w' => w'.cell? ⟨b, off + k, none⟩ = some (.slice (some ⟨g, 0, none⟩) 2 2) ∧ w'.cell? ⟨b', off' + k, none⟩ = some (.slice (some ⟨g', 0, none⟩) 2 2)) (first | (go_keep; done) | (simp [*, go_sem]; done))
        (first | (go_at_call 24; refine (HE.out _ (HB.out.trans (show Below w.heap.size wr _ from Below.mono (B := wr.heap.size) (by first | exact Below.refl _ _ | exact bdrewN (Below.refl _ _) _ | (go_grown; done)) HB.out.size))).mono ?_; rintro e w20 ⟨rfl, hb20⟩; have HB20 := Lib.hid ((HB.out.trans (show Below w.heap.size wr _ from Below.mono (B := wr.heap.size) (by first | exact Below.refl _ _ | exact bdrewN (Below.refl _ _) _ | (go_grown; done)) HB.out.size)).trans (hb20.mono (by have hs_ := HB.out.size; first | omega | (simp; done) | (simp; omega)))); have hca := (hb20.cell (p := ⟨b, off + k, none⟩) (by first | exact lb0 | (simp; done) | (simp; omega))).trans (by first | exact d0 | simpa using d0); have hcb := (hb20.cell (p := ⟨b', off' + k, none⟩) (by first | exact lb1 | (simp; done) | (simp; omega))).trans (by first | exact d1 | simpa using d1); clear hb20))
      all_goals go_wp2
      all_goals go_roundw
      all_goals first | exact ⟨HB20.out, k + 1, by omega, by go_num⟩ | (simp [intOf]; omega)
    · go_wp2
      go_ret
      exact ⟨rfl, Br⟩
set_option maxHeartbeats 2000000 in
theorem markInt64SS_any (A : Option Addr) (c : Nat) (ps : List (Int × Int)) (k0 : Int) (lo hi : Nat) (w : World) (hx : ResPP w lo hi A c ps) (hk : 0 ≤ k0) (hk2 : k0 ≤ 1000) (hl : ps.length ≤ 1000000) :
    Calls Try.prog 13 #[.slice A ps.length c, .int .i64 k0] w fun e w' => e = .returned (.int .i64 (k0 + 2 * ps.length)) ∧ ResPP w' lo hi A c (mkP k0 ps.length) ∧ Chg lo hi w w' := by
  have hn := hx.bd
  by_cases h0 : ps.length = 0
  · have e0 : ps = [] := List.eq_nil_of_length_eq_zero h0
    subst e0
    go_enter Try.func13, Try.ntmps13
    go_wp2
    refine Go.wp_loop_rounds 1 ?_
    rw [rounds_succ]
    go_wp2
    go_ret
    exact ⟨by simp, ResPP.nil _ _ _ _ _ hn.2, Chg.refl _ _ _⟩
  · obtain ⟨bs, b0, off0, rfl, a1, a2, hK, hI, hne⟩ := hx.split (by omega)
    have hbl := hI.len
    have HN := Lib.hid hne; clear hne hx
    have HK0 := Lib.hid hK; have HI0 := Lib.hid hI
    go_enter Try.func13, Try.ntmps13
    go_wp2
    go_loopw [1, 5] (fun kk i wr => ∃ j : Nat, j ≤ ps.length ∧ i = .int .i64 j ∧ kk = .int .i64 (k0 + 2 * j) ∧ Chg lo hi w wr ∧ ResK wr b0 (b0 + 1) (some ⟨b0, off0, none⟩) c 1 (bs.map prE) ∧ InP wr lo hi bs (mkT k0 ps j)) (fun _ i _ => ps.length - (intOf i).toNat)
    case atStart => exact ⟨0, by omega, rfl, by simp, Chg.refl _ _ _, HK0.out, HI0.out⟩
    case round =>
      obtain ⟨j, hj, rfl, rfl, cb, rk, ri⟩ := hrel
      have CB := Lib.hid cb; have RK := Lib.hid rk; have RI := Lib.hid ri; clear cb rk ri
      by_cases hlt : j < ps.length
      · have hjb : j < bs.length := by omega
        have e1 := List.getElem?_eq_getElem hjb
        obtain ⟨g, hg⟩ : ∃ g, bs[j] = g := ⟨_, rfl⟩
        rw [hg] at e1
        have hgm := List.mem_of_getElem? e1
        have hgb := HN.out g hgm
        obtain ⟨q1, q2, q3⟩ := RI.out.mem hgm
        have hlm : j < (mkT k0 ps j).length := by rw [mkT_len]; exact hlt
        have e2 := List.getElem?_eq_getElem hlm
        have hr := RI.out.res e1 e2
        obtain ⟨b_, off_, e_, he, hb0, hee, hc⟩ := RK.out.at.at_ (i := j) (by rw [List.length_map]; exact hjb)
        simp only [Option.some.injEq, Addr.mk.injEq, and_true] at he
        obtain ⟨rfl, rfl⟩ := he
        rw [pr_get e1] at hee; injection hee with hee; subst hee
        have c0 : wr.cell? ⟨b0, off0 + j, none⟩ = some (.slice (some ⟨g, 0, none⟩) 2 2) := by have := hc 0 _ rfl; simpa using this
        have hk0 : (0 : Int) ≤ (j : Int) := Int.natCast_nonneg _
        have hk1 : (j : Int) < (ps.length : Int) := by omega
        have HR := Lib.hid hr; have E1 := Lib.hid e1; clear hr hc e2 e1 hg
        go_wp2_with fail
        refine (markInt64S_any (some ⟨g, 0, none⟩) 2 [(mkT k0 ps j)[j].1, (mkT k0 ps j)[j].2] (k0 + 2 * j) g (g + 1) _ HR.out (by omega) (by omega) (by simp)).mono ?_
        rintro e w1 ⟨rfl, S1, C1⟩
        have HS1 := Lib.hid S1; have HC1 := Lib.hid C1; clear S1 C1
        go_wp2
        go_roundw
        case rel => exact ⟨j + 1, by omega, by go_num, by simp; omega, CB.out.trans (HC1.out.mono (by omega) (by omega)), RK.out.chgB HC1.out.toB (by omega), RI.out.set E1.out HC1.out HS1.out⟩
        case measure => simp [intOf]; omega
      · obtain rfl : j = ps.length := by omega
        have RI := Lib.hid (show InP wr lo hi bs (mkP k0 ps.length) by have q := RI.out; rw [mkT_all] at q; exact q)
        go_wp2
        go_ret
        exact ⟨rfl, ⟨bs, RK.out.mono (by omega) (by omega), RI.out, fun b hb off e => by simp only [Option.some.injEq, Addr.mk.injEq, and_true] at e; exact HN.out b hb e.1.symm⟩, CB.out⟩
set_option maxHeartbeats 1000000 in
theorem heldInt64SS_any (A : Option Addr) (c n lo hi : Nat) (k0 : Int) (w : World) (hx : ResPP w lo hi A c (mkP k0 n)) (hk : 0 ≤ k0) (hk2 : k0 ≤ 1000) (hl : n ≤ 1000000) :
    Calls Try.prog 14 #[.slice A n c, .int .i64 k0] w fun e w' => e = .returned (.int .i64 (k0 + 2 * n)) ∧ w = w' := by
  have hln := mkP_len k0 n
  have HL := Lib.hid hln; clear hln
  have HX := Lib.hid hx; clear hx
  go_enter Try.func14, Try.ntmps14
  go_wp2
  go_loop [1, 5] (fun kk i => ∃ j : Nat, j ≤ n ∧ i = .int .i64 j ∧ kk = .int .i64 (k0 + 2 * j)) (fun _ i => n - (intOf i).toNat)
  case atStart => exact ⟨0, by omega, rfl, by simp⟩
  case round =>
    obtain ⟨j, hj, rfl, rfl⟩ := hrel
    by_cases hlt : j < n
    · obtain ⟨b, off, g, p, rfl, hb, hp, hg, cs, c0, c1, hi_⟩ := HX.out.at_ (i := j) (by rw [HL.out]; exact hlt)
      rw [mkP_get hlt] at hp; injection hp with hp; subst hp
      have HI := Lib.hid (show IntsAt w (some ⟨g, 0, none⟩) 2 (seqI 2 (k0 + 2 * j)) from hi_)
      clear hi_ c0 c1
      have hk0 : (0 : Int) ≤ (j : Int) := Int.natCast_nonneg _
      have hk1 : (j : Int) < (n : Int) := by omega
      go_wp2_with fail
      refine (heldInt64S_any (some ⟨g, 0, none⟩) 2 2 (k0 + 2 * j) _ HI.out (by omega) (by omega) (by omega)).mono ?_
      rintro e w' ⟨rfl, rfl⟩
      go_wp2
      go_round
      case rel => exact ⟨j + 1, by omega, by go_num, by simp; omega⟩
      case measure => simp [intOf]; omega
    · obtain rfl : j = n := by omega
      go_wp2
      go_ret
      exact ⟨rfl, rfl⟩
end Go.Proofs.Ytbbnnahjghlnoaa
