/- Lists of soundings. -/
import Derived.Test.YtebdokpokbcgjaaDoorInts
import Derived.Test.YtebdokpokbcgjaaDoorSnd0
namespace Go.Proofs.YtebdokpokbcgjaaDoor
set_option linter.unusedSimpArgs false
set_option linter.unusedVariables false
open Go.RowKit

/-- a sounding -/
structure Snd where
  x : Int
  y : Int
  d : Int
  e : Int

/-- the slice with address A and capacity c reads as the list xs -/
def SndsAt (w : World) (A : Option Addr) (c : Nat) (xs : List Snd) : Prop :=
  xs.length ≤ c ∧ c ≤ 9223372036854775807 ∧ (xs = [] ∨ ∃ b off, A = some ⟨b, off, none⟩ ∧ b < w.heap.size ∧ ∀ i s, xs[i]? = some s →
    w.cell? ⟨b, off + i * 4, none⟩ = some (.int .i64 s.x) ∧ w.cell? ⟨b, off + i * 4 + 1, none⟩ = some (.int .i64 s.y) ∧
    w.cell? ⟨b, off + i * 4 + 2, none⟩ = some (.int .i64 s.d) ∧ w.cell? ⟨b, off + i * 4 + 3, none⟩ = some (.int .i64 s.e))

theorem SndsAt.at_ {w : World} {A : Option Addr} {c k : Nat} {xs : List Snd} (h : SndsAt w A c xs) (hk : k < xs.length) :
    ∃ b off, ∃ x y d e : Int, A = some ⟨b, off, none⟩ ∧ b < w.heap.size ∧ xs[k]? = some ⟨x, y, d, e⟩ ∧ w.cell? ⟨b, off + k * 4, none⟩ = some (.int .i64 x) ∧ w.cell? ⟨b, off + k * 4 + 1, none⟩ = some (.int .i64 y) ∧
    w.cell? ⟨b, off + k * 4 + 2, none⟩ = some (.int .i64 d) ∧ w.cell? ⟨b, off + k * 4 + 3, none⟩ = some (.int .i64 e) := by
  rcases h.2.2 with rfl | ⟨b, off, rfl, hb, hc⟩
  · exact absurd hk (by simp)
  · have := hc k _ (List.getElem?_eq_getElem hk)
    exact ⟨b, off, _, _, _, _, rfl, hb, List.getElem?_eq_getElem hk, this.1, this.2.1, this.2.2.1, this.2.2.2⟩

theorem SndsAt.below {w w1 : World} {B : Nat} {A : Option Addr} {c : Nat} {xs : List Snd} (h : SndsAt w A c xs) (hb : Below B w w1) (hB : w.heap.size ≤ B) : SndsAt w1 A c xs := by
  refine ⟨h.1, h.2.1, ?_⟩
  rcases h.2.2 with rfl | ⟨b, off, rfl, hb1, hc⟩
  · exact .inl rfl
  · have := hb.size
    refine .inr ⟨b, off, rfl, by omega, fun i s hs => ?_⟩
    have g : ∀ o, w1.cell? ⟨b, o, none⟩ = w.cell? ⟨b, o, none⟩ := fun o => hb.cell (p := ⟨b, o, none⟩) (by show b < B; omega)
    rw [g, g, g, g]
    exact hc i s hs

/-- .. its cells in blocks from lo up to hi, and free to be written -/
def ResS (w : World) (lo hi : Nat) (A : Option Addr) (c : Nat) (xs : List Snd) : Prop :=
  xs.length ≤ c ∧ c ≤ 9223372036854775807 ∧ (xs = [] ∨ ∃ b off, A = some ⟨b, off, none⟩ ∧ lo ≤ b ∧ b < hi ∧ b < w.heap.size ∧ (∀ o, w.frozen? ⟨b, o, none⟩ = false) ∧ ∀ i s, xs[i]? = some s →
    w.cell? ⟨b, off + i * 4, none⟩ = some (.int .i64 s.x) ∧ w.cell? ⟨b, off + i * 4 + 1, none⟩ = some (.int .i64 s.y) ∧
    w.cell? ⟨b, off + i * 4 + 2, none⟩ = some (.int .i64 s.d) ∧ w.cell? ⟨b, off + i * 4 + 3, none⟩ = some (.int .i64 s.e))
theorem ResS.at {w : World} {lo hi c : Nat} {A : Option Addr} {xs : List Snd} (h : ResS w lo hi A c xs) : SndsAt w A c xs := by
  refine ⟨h.1, h.2.1, ?_⟩
  rcases h.2.2 with e | ⟨b, off, e, _, _, hb, _, hc⟩
  · exact .inl e
  · exact .inr ⟨b, off, e, hb, hc⟩
theorem ResS.below {w w1 : World} {lo hi c B : Nat} {A : Option Addr} {xs : List Snd} (h : ResS w lo hi A c xs) (hb : Below B w w1) (hB : hi ≤ B) : ResS w1 lo hi A c xs := by
  refine ⟨h.1, h.2.1, ?_⟩
  rcases h.2.2 with e | ⟨b, off, e, h1, h2, h3, hf, hc⟩
  · exact .inl e
  · have := hb.size
    refine .inr ⟨b, off, e, h1, h2, by omega, fun o => (hb.frozen (p := ⟨b, o, none⟩) (by show b < B; omega)).trans (hf o), fun i s hs => ?_⟩
    have g : ∀ o, w1.cell? ⟨b, o, none⟩ = w.cell? ⟨b, o, none⟩ := fun o => hb.cell (p := ⟨b, o, none⟩) (by show b < B; omega)
    rw [g, g, g, g]
    exact hc i s hs
theorem ResS.chg {w w1 : World} {lo hi lo' hi' c : Nat} {A : Option Addr} {xs : List Snd} (h : ResS w lo hi A c xs) (hb : Chg lo' hi' w w1) (hB : hi ≤ lo' ∨ hi' ≤ lo) : ResS w1 lo hi A c xs := by
  refine ⟨h.1, h.2.1, ?_⟩
  rcases h.2.2 with e | ⟨b, off, e, h1, h2, h3, hf, hc⟩
  · exact .inl e
  · refine .inr ⟨b, off, e, h1, h2, by rw [hb.size]; exact h3, fun o => (World.frozen?_of_block (w := w) (hb.block b (by omega))).trans (hf o), fun i s hs => ?_⟩
    have g : ∀ o, w1.cell? ⟨b, o, none⟩ = w.cell? ⟨b, o, none⟩ := fun o => World.cell?_of_block (w := w) (hb.block b (by omega))
    rw [g, g, g, g]
    exact hc i s hs
theorem ResS.mono {w : World} {lo hi lo' hi' c : Nat} {A : Option Addr} {xs : List Snd} (h : ResS w lo hi A c xs) (h1 : lo' ≤ lo) (h2 : hi ≤ hi') : ResS w lo' hi' A c xs := by
  refine ⟨h.1, h.2.1, ?_⟩
  rcases h.2.2 with e | ⟨b, off, e, g1, g2, h3, hf, hc⟩
  · exact .inl e
  · exact .inr ⟨b, off, e, by omega, by omega, h3, hf, hc⟩
theorem ResS.nil (w : World) (lo hi : Nat) (A : Option Addr) (c : Nat) (hc : c ≤ 9223372036854775807) : ResS w lo hi A c [] := ⟨by simp, hc, .inl rfl⟩

def sndP (s : Snd) : Bool := sndB s.x s.y s.d s.e
def sndsB (xs : List Snd) : Bool := xs.all sndP && decide (xs.length ≤ 200)

theorem stop_all {α : Type} {p : α → Bool} {xs : List α} {k : Nat} {x : α} (h : xs[k]? = some x) (hp : p x = false) : xs.all p = false := by
  rw [List.all_eq_false]; exact ⟨x, List.mem_of_getElem? h, by simp [hp]⟩
theorem step_all {α : Type} {p : α → Bool} {xs : List α} {k : Nat} {x : α} (h : xs[k]? = some x) (ha : (xs.take k).all p = true) (hp : p x = true) : (xs.take (k + 1)).all p = true := by
  rw [List.take_add_one, h]; simp_all
theorem done_all {α : Type} {p : α → Bool} {xs : List α} {k : Nat} (ha : (xs.take k).all p = true) (hk : ¬ k < xs.length) : xs.all p = true := by
  rwa [List.take_of_length_le (by omega)] at ha

set_option maxHeartbeats 400000 in
theorem specAreSoundings_any (A : Option Addr) (c : Nat) (xs : List Snd) (w : World) (hx : SndsAt w A c xs) :
    Calls Tryd.prog 55 #[.slice A xs.length c] w fun e w' => e = .returned (.bool (sndsB xs)) ∧ Below w.heap.size w w' := by
  have hn := Nat.le_trans hx.1 hx.2.1
  have HX := Lib.hid hx; clear hx
  go_enter Tryd.func55, Tryd.ntmps55
  go_wp2
  go_loopw [3] (fun i wr => Below w.heap.size w wr ∧ ∃ k : Nat, k ≤ xs.length ∧ i = .int .i64 k ∧ (xs.take k).all sndP = true) (fun i _ => xs.length - (intOf i).toNat)
  case atStart => exact ⟨Below.refl _ _, 0, by omega, rfl, by simp⟩
  case round =>
    obtain ⟨Br, k, hk, rfl, ha⟩ := hrel
    have HA := Lib.hid ha; clear ha
    have HY := Lib.hid (HX.out.below Br (Nat.le_refl _))
    by_cases hlt : k < xs.length
    · obtain ⟨b, off, x, y, d, e, rfl, hb, hxk, c0, c1, c2, c3⟩ := HY.out.at_ hlt
      have HK := Lib.hid hxk; clear hxk
      by_cases hin : sndB x y d e = true
      · go_wp2_with fail
        (refine (l21Is_any _ _ _ _ _).mono ?_; rintro e w1 ⟨rfl, hb1⟩; obtain ⟨B1, hz1, q1, s1, t1, x1, y1, z1⟩ := bkeep (w := w) [] (by first | (simp; done) | (simp; omega)) (by first | (go_grown; done) | exact bdrewN (by go_grown) _) hb1; (try simp at hz1); clear hb1)
        go_wp2
        go_roundw
        case rel => exact ⟨B1, k + 1, by omega, by go_num, step_all HK.out HA.out hin⟩
        case measure => simp [intOf]; omega
      · go_wp2_with fail
        (refine (l21Is_any _ _ _ _ _).mono ?_; rintro e w1 ⟨rfl, hb1⟩; obtain ⟨B1, hz1, q1, s1, t1, x1, y1, z1⟩ := bkeep (w := w) [] (by first | (simp; done) | (simp; omega)) (by first | (go_grown; done) | exact bdrewN (by go_grown) _) hb1; (try simp at hz1); clear hb1)
        go_wp2
        go_ret
        exact ⟨ret_bool (by rw [sndsB, stop_all (p := sndP) HK.out (by simpa [sndP] using hin)]; rfl), B1⟩
    · go_wp2
      go_ret
      exact ⟨ret_bool (by simp [sndsB, done_all HA.out hlt]; omega), Br⟩

/-- the first index at which a sounding is not valid, or -1 -/
def badAt : List Snd → Int → Int
  | [], _ => -1
  | s :: r, i => if sndP s then badAt r (i + 1) else i

theorem badAt_neg (xs : List Snd) : ∀ i : Int, 0 ≤ i → (decide (0 ≤ badAt xs i) = !xs.all sndP) := by
  induction xs with
  | nil => intro i _; simp [badAt]
  | cons s r ih =>
    intro i hi
    unfold badAt
    by_cases h : sndP s = true
    · rw [if_pos h, ih _ (by omega)]; simp [h]
    · rw [if_neg h]; simp [h, hi]

theorem badAt_stop {xs : List Snd} {k : Nat} {s : Snd} (h : xs[k]? = some s) (ha : (xs.take k).all sndP = true) (hs : sndP s = false) : ∀ i : Int, badAt xs i = i + k := by
  induction k generalizing xs with
  | zero =>
    intro i
    cases xs with
    | nil => simp at h
    | cons a r => simp at h; subst h; simp [badAt, hs]
  | succ k ih =>
    intro i
    cases xs with
    | nil => simp at h
    | cons a r =>
      simp at h ha
      unfold badAt
      rw [if_pos ha.1, ih h (by simpa using ha.2)]
      omega

theorem badAt_done {xs : List Snd} (ha : xs.all sndP = true) : ∀ i : Int, badAt xs i = -1 := by
  induction xs with
  | nil => intro i; rfl
  | cons a r ih =>
    intro i
    simp at ha
    unfold badAt
    rw [if_pos ha.1, ih (by simpa using ha.2)]

set_option maxHeartbeats 400000 in
theorem notSounding_any (a b c d : Int) (w : World) :
    Calls Tryd.prog 93 #[sndV a b c d] w fun e w' => e = .returned (.bool (!sndB a b c d)) ∧ Below w.heap.size w w' := by
  go_enter Tryd.func93, Tryd.ntmps93
  go_wp2_with fail
  (refine (isSounding_any _ _ _ _ _).mono ?_; rintro e w1 ⟨rfl, hb1⟩; obtain ⟨B1, hz1, q1, s1, t1, x1, y1, z1⟩ := bkeep (w := w) [w.heap.size] (by first | (simp; done) | (simp; omega)) (by first | (go_grown; done) | exact bdrewN (by go_grown) _) hb1; (try simp at hz1); clear hb1)
  go_wp2
  go_ret
  exact ⟨rfl, B1⟩

set_option maxHeartbeats 400000 in
theorem indexFunc_any (A : Option Addr) (c : Nat) (xs : List Snd) (w : World) (hx : SndsAt w A c xs) :
    Calls Tryd.prog 105 #[.slice A xs.length c, .func (.func 93) #[] #[]] w fun e w' => e = .returned (.int .i64 (badAt xs 0)) ∧ Below w.heap.size w w' := by
  have hn := Nat.le_trans hx.1 hx.2.1
  have HX := Lib.hid hx; clear hx
  go_enter Tryd.func105, Tryd.ntmps105
  go_wp2
  go_loopw [8] (fun i wr => Below w.heap.size w wr ∧ ∃ k : Nat, k ≤ xs.length ∧ i = .int .i64 k ∧ (xs.take k).all sndP = true) (fun i _ => xs.length - (intOf i).toNat)
  case atStart => exact ⟨Below.refl _ _, 0, by omega, rfl, by simp⟩
  case round =>
    obtain ⟨Br, k, hk, rfl, ha⟩ := hrel
    have HA := Lib.hid ha; clear ha
    have HY := Lib.hid (HX.out.below Br (Nat.le_refl _))
    by_cases hlt : k < xs.length
    · obtain ⟨b, off, x, y, d, e, rfl, hb, hxk, c0, c1, c2, c3⟩ := HY.out.at_ hlt
      have HK := Lib.hid hxk; clear hxk
      by_cases hin : sndB x y d e = true
      · go_wp2_with fail
        (refine (notSounding_any _ _ _ _ _).mono ?_; rintro e w1 ⟨rfl, hb1⟩; obtain ⟨B1, hz1, q1, s1, t1, x1, y1, z1⟩ := bkeep (w := w) [] (by first | (simp; done) | (simp; omega)) (by first | (go_grown; done) | exact bdrewN (by go_grown) _) hb1; (try simp at hz1); clear hb1)
        go_wp2
        go_roundw
        case rel => exact ⟨B1, k + 1, by omega, by go_num, step_all HK.out HA.out hin⟩
        case measure => simp [intOf]; omega
      · go_wp2_with fail
        (refine (notSounding_any _ _ _ _ _).mono ?_; rintro e w1 ⟨rfl, hb1⟩; obtain ⟨B1, hz1, q1, s1, t1, x1, y1, z1⟩ := bkeep (w := w) [] (by first | (simp; done) | (simp; omega)) (by first | (go_grown; done) | exact bdrewN (by go_grown) _) hb1; (try simp at hz1); clear hb1)
        go_wp2
        go_ret
        exact ⟨ret_int (by rw [badAt_stop HK.out HA.out (by simpa [sndP] using hin)]; omega), B1⟩
    · go_wp2
      go_ret
      exact ⟨ret_int (badAt_done (done_all HA.out hlt) _).symm, Br⟩

theorem sndsB_eq (xs : List Snd) : (decide ((xs.length : Int) ≤ 200) && !decide (0 ≤ badAt xs 0)) = sndsB xs := by
  rw [badAt_neg _ _ (by omega), sndsB, Bool.not_not, Bool.and_comm]
  congr 1
  rw [Bool.eq_iff_iff]; simp; omega

set_option maxHeartbeats 400000 in
theorem containsFunc_any (A : Option Addr) (c : Nat) (xs : List Snd) (w : World) (hx : SndsAt w A c xs) :
    Calls Tryd.prog 92 #[.slice A xs.length c, .func (.func 93) #[] #[]] w fun e w' => e = .returned (.bool (decide (0 ≤ badAt xs 0))) ∧ Below w.heap.size w w' := by
  go_enter Tryd.func92, Tryd.ntmps92
  go_wp2_with fail
  (refine (indexFunc_any _ _ _ _ hx).mono ?_; rintro e w1 ⟨rfl, hb1⟩; obtain ⟨B1, hz1, q1, s1, t1, x1, y1, z1⟩ := bkeep (w := w) [] (by first | (simp; done) | (simp; omega)) (by first | (go_grown; done) | exact bdrewN (by go_grown) _) hb1; (try simp at hz1); clear hb1)
  go_wp2
  go_ret
  exact ⟨rfl, B1⟩

set_option maxHeartbeats 400000 in
theorem implAreSoundings_any (A : Option Addr) (c : Nat) (xs : List Snd) (w : World) (hx : SndsAt w A c xs) :
    Calls Tryd.prog 58 #[.slice A xs.length c] w fun e w' => e = .returned (.bool (sndsB xs)) ∧ Below w.heap.size w w' := by
  have he := Lib.hid (sndsB_eq xs)
  go_enter Tryd.func58, Tryd.ntmps58
  by_cases hl : (xs.length : Int) ≤ 200
  · go_wp2_with fail
    (refine (containsFunc_any _ _ _ _ hx).mono ?_; rintro e w1 ⟨rfl, hb1⟩; obtain ⟨B1, hz1, q1, s1, t1, x1, y1, z1⟩ := bkeep (w := w) [] (by first | (simp; done) | (simp; omega)) (by first | (go_grown; done) | exact bdrewN (by go_grown) _) hb1; (try simp at hz1); clear hb1)
    go_wp2
    go_ret
    exact ⟨ret_bool (by rw [← he.out]; simp [hl]), B1⟩
  · go_wp2_with fail
    go_ret
    exact ⟨ret_bool (by rw [← he.out, decide_eq_false (by omega)]; rfl), Below.refl _ _⟩

set_option maxHeartbeats 400000 in
theorem szSoundingS_any (A : Option Addr) (c n : Nat) (l : Int) (w : World) (hl : 0 ≤ l) (hl2 : l ≤ 1048576) (hn : n ≤ 9223372036854775807) :
    Calls Tryd.prog 14 #[.slice A n c, .int .i64 l] w fun e w' => e = .returned (.int .i64 (if l - n < 0 then -1 else l - n)) ∧ w = w' := by
  by_cases h : l - n < 0
  all_goals
    go_enter Tryd.func14, Tryd.ntmps14
    go_wp2
    go_ret
    exact ⟨ret_int (by simp [h]), rfl⟩

/-- what is known of element j of a row of soundings in block g -/
def SndIs (w : World) (g o : Nat) (s : Snd) : Prop :=
  w.cell? ⟨g, o, none⟩ = some (.int .i64 s.x) ∧ w.cell? ⟨g, o + 1, none⟩ = some (.int .i64 s.y) ∧ w.cell? ⟨g, o + 2, none⟩ = some (.int .i64 s.d) ∧ w.cell? ⟨g, o + 3, none⟩ = some (.int .i64 s.e)

theorem SndIs.below {w w1 : World} {B g o : Nat} {s : Snd} (h : SndIs w g o s) (hb : Below B w w1) (hg : g < B) : SndIs w1 g o s := by
  have e : ∀ o, w1.cell? ⟨g, o, none⟩ = w.cell? ⟨g, o, none⟩ := fun o => hb.cell (p := ⟨g, o, none⟩) hg
  unfold SndIs
  rw [e, e, e, e]
  exact h

theorem snd_set {w : World} {base g N o : Nat} (h : Own w base g N) (ho : o + 3 < N) (x y d e : Value) :
    Own ((((w.setCell ⟨g, o, none⟩ x).setCell ⟨g, o + 1, none⟩ y).setCell ⟨g, o + 2, none⟩ d).setCell ⟨g, o + 3, none⟩ e) base g N ∧
    ∀ p, ((((w.setCell ⟨g, o, none⟩ x).setCell ⟨g, o + 1, none⟩ y).setCell ⟨g, o + 2, none⟩ d).setCell ⟨g, o + 3, none⟩ e).cell? ⟨g, p, none⟩ =
      if p = o + 3 then some e else if p = o + 2 then some d else if p = o + 1 then some y else if p = o then some x else w.cell? ⟨g, p, none⟩ := by
  refine ⟨(((h.set _).set _).set _).set _, fun p => ?_⟩
  rw [(((h.set _).set _).set _).cell_set (by omega), ((h.set _).set _).cell_set (by omega), (h.set _).cell_set (by omega), h.cell_set (by omega)]

theorem snds_of {w : World} {g c base N hi : Nat} {xs : List Snd} (hO : Own w base g N) (hh : g < hi) (hc : xs.length ≤ c) (hc2 : c ≤ 9223372036854775807) (h : ∀ j s, xs[j]? = some s → SndIs w g (j * 4) s) : ResS w base hi (some ⟨g, 0, none⟩) c xs :=
  ⟨hc, hc2, .inr ⟨g, 0, rfl, hO.lo, hh, hO.lt, hO.fr, fun i s hs => by rw [Nat.zero_add]; exact h i s hs⟩⟩

theorem infoSnd : (Tryd.prog.info? 73).map (fun i => (i.zero, i.size, i.bytes)) = some (some (.agg #[.int .i64 0, .int .i64 0, .int .i64 0, .int .i64 0]), 4, 32) := by kernel_rfl

set_option maxHeartbeats 400000 in
theorem toSoundingS_any (A : Option Addr) (c : Nat) (xs : List Snd) (w : World) (hx : SndsAt w A c xs) (hl : xs.length ≤ 1048576) :
    Calls Tryd.prog 16 #[.slice A xs.length c] w fun e w' => (∃ g, e = .returned (.slice (some ⟨g, 0, none⟩) xs.length xs.length) ∧ ResS w' w.heap.size w'.heap.size (some ⟨g, 0, none⟩) xs.length xs) ∧ Below w.heap.size w w' := by
  obtain ⟨i0, hi, hz0, hz1, hz2⟩ := info_parts infoSnd
  have hmk := fun W => make_rowN (P := Tryd.prog) 34 73 i0 _ Tryd.underlying34 hi hz0 .i64 .i64 xs.length xs.length (Nat.le_refl _) (by rw [hz2]; omega) (by omega) W
  have HX := Lib.hid hx; clear hx
  have HI := Lib.hid hi; have HZ := Lib.hid hz1; clear hi hz0 hz1 hz2
  go_enter Tryd.func16, Tryd.ntmps16
  go_wp2
  go_loopw [4] (fun i wr => Below w.heap.size w wr ∧ Own wr w.heap.size w.heap.size (xs.length * 4) ∧ ∃ k : Nat, k ≤ xs.length ∧ i = .int .i64 k ∧ ∀ j s, j < k → xs[j]? = some s → SndIs wr w.heap.size (j * 4) s) (fun i _ => xs.length - (intOf i).toNat)
  case atStart => exact ⟨by go_grown, own_made _ _ _ (by rw [size_madeCells, HZ.out]) (Nat.le_refl _), 0, by omega, rfl, fun j s h => absurd h (by omega)⟩
  case round =>
    obtain ⟨Br, Ow, k, hk, rfl, ha⟩ := hrel
    have HA := Lib.hid ha; clear ha
    have HO := Lib.hid Ow; clear Ow
    have HY := Lib.hid (HX.out.below Br (Nat.le_refl _))
    by_cases hlt : k < xs.length
    · obtain ⟨b, off, x, y, d, e, rfl, hb, hxk, c0, c1, c2, c3⟩ := HY.out.at_ hlt
      have HK := Lib.hid hxk; clear hxk
      go_wp2_with fail
      refine (toSounding_any _ _ _ _ _).mono ?_; rintro e1 w1 ⟨rfl, hb1⟩
      have B1 := Br.trans (hb1.mono Br.size)
      have O1 := HO.out.below hb1 HO.out.lt
      have f1 := O1.fr
      obtain ⟨u0, g0⟩ := O1.some_ (o := k * 4) (by omega)
      obtain ⟨u1, g1⟩ := O1.some_ (o := k * 4 + 1) (by omega)
      obtain ⟨u2, g2⟩ := O1.some_ (o := k * 4 + 2) (by omega)
      obtain ⟨u3, g3⟩ := O1.some_ (o := k * 4 + 3) (by omega)
      have HO1 := Lib.hid O1; clear O1
      go_wp2
      obtain ⟨O2, R2⟩ := snd_set HO1.out (o := k * 4) (by omega) (.int .i64 x) (.int .i64 y) (.int .i64 d) (.int .i64 e)
      go_roundw
      case rel =>
        refine ⟨by go_grown, O2, k + 1, by omega, by go_num, fun j s hj hs => ?_⟩
        by_cases e : j = k
        · subst e
          have hs' := HK.out.symm.trans hs
          injection hs' with hs'
          subst hs'
          simp [SndIs, R2]
        · have := (HA.out j s (by omega) hs).below hb1 HO.out.lt
          simp only [SndIs, R2] at this ⊢
          rw [if_neg (by omega), if_neg (by omega), if_neg (by omega), if_neg (by omega), if_neg (by omega), if_neg (by omega), if_neg (by omega), if_neg (by omega), if_neg (by omega), if_neg (by omega), if_neg (by omega), if_neg (by omega), if_neg (by omega), if_neg (by omega), if_neg (by omega), if_neg (by omega)]
          exact this
      case measure => simp [intOf]; omega
    · go_wp2
      go_ret
      exact ⟨⟨_, rfl, snds_of HO.out HO.out.lt (Nat.le_refl _) (by omega) fun j s hs => HA.out j s (by have := (List.getElem?_eq_some_iff.1 hs).1; omega) hs⟩, Br⟩
end Go.Proofs.YtebdokpokbcgjaaDoor